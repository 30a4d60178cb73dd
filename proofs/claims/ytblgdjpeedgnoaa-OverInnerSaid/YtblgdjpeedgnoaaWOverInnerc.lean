/- OverInner: walks of the code: the run of each function comes to what its plain function says. -/
import Derived.Test.YtblgdjpeedgnoaaWOverInnerb
set_option maxHeartbeats 4000000
set_option linter.unusedVariables false
set_option linter.unusedSimpArgs false
set_option maxRecDepth 100000
open Go Go.Am Go.Proofs
namespace Go.Proofs.Ytblgdjpeedgnoaa.overInner
variable {ora : FuncId → Bool}
theorem wk28 {wm : Nat} {H : AHeap} {Fr : List Ent} (ho100 : ora 100 = false) (fn1 : ByteArray) (a1 : Val) (b1 : Val)  (v1 : Value) (v2 : Value) (v3 : Value) (v4 : Value) (hI : Kn wm H [.fz (rI .i64) v1 a1.Shape, .fz (rI .i64) v2 a1.Data, .fz (rI .i64) v3 b1.Shape, .fz (rI .i64) v4 b1.Data] Fr) {r : Val × Int} (h0 : M.scalar_Dyad fn1 a1 b1 = some r) :
  wpF Try.prog ora wm 28 [.string fn1, .agg #[.bool a1.Char, v1, v2], .agg #[.bool b1.Char, v3, v4]] H (fun res H => ∃ v8 v9, res = .tuple #[.agg #[.bool r.1.Char, v8, v9], .int .i64 r.2] ∧ Kn wm H [.own (rI .i64) v8 r.1.Shape, .own (rI .i64) v9 r.1.Data] Fr) := by
 unfold M.scalar_Dyad at h0
 refine f_enter (n := 60) Try.func28 rfl (by simp) hI rfl rfl rfl fun tm hS => ?_
 clear hI
 refine c_reg fun R hR => ?_
 refine o_box hS (.inl rfl) rfl rfl rfl (all_cons rfl all_nil) ?_; clear hS
 intro b2 tm H hS
 refine o_box hS (.inl rfl) rfl rfl rfl (all_cons rfl (all_cons (hS.one (k := 1) rfl (.inl rfl)) (all_cons (hS.one (k := 2) rfl (.inl rfl)) all_nil))) ?_; clear hS
 intro b3 tm H hS
 refine o_box hS (.inl rfl) rfl rfl rfl (all_cons rfl (all_cons (hS.one (k := 4) rfl (.inl rfl)) (all_cons (hS.one (k := 5) rfl (.inl rfl)) all_nil))) ?_; clear hS
 intro b4 tm H hS
 refine o_alloc hS (.inl rfl) rfl Fz25 (by decide) ?_; clear hS
 intro b5 tm H hS
 refine pp1 hS rfl rfl ?_; clear hS
 intro tm hS
 refine o_nil (hR _ _ ?_)
 clear hR R
 refine c_seqS ?_
 refine wpC.block ?_
 refine c_reg fun R hR => ?_
 refine o_ld1 (k := 3) hS (.inl rfl) rfl rfl rfl (.inl rfl) Fu9 rfl rfl ?_; clear hS
 intro tm hS
 obtain ⟨r1, hx1, h0⟩ := bindS h0
 refine o_call hS (.inl rfl) rfl (fun wm' hw1 hw2 => wk52  fn1   (hS.sel hw2) hx1) (fun wm' res H hw' hp => ?_)
 obtain ⟨hres, hI⟩ := hp
 replace hres := hres.symm; subst hres
 replace hS : S wm 60 _ H ((13, .bool r1) :: _) ([] ++ _) Fr := hS.after rfl hw' hI
 clear hI hw'
 refine pp2 hS rfl rfl rfl rfl ?_; clear hS
 intro tm hS
 refine o_nil (hR _ _ ?_)
 clear hR R
 refine c_cond hS rfl (fun hc => ?_) (fun hc => ?_)
 ·replace h0 := iteT hc h0
  refine c_reg fun R hR => ?_
  refine o_build hS (.inl rfl) rfl Fb25 rfl .nil rfl ?_; clear hS
  intro tm hS
  refine o_st (k := 0) hS (.inl rfl) rfl rfl rfl Fs25 rfl rfl (all_cons rfl (all_cons rfl (all_cons rfl all_nil))) rfl ?_; clear hS; try clear H
  intro H hS
  refine pp1 hS rfl rfl ?_; clear hS
  intro tm hS
  refine o_nil (hR _ _ ?_)
  clear hR R
  refine wpC.ret ?_
  obtain rfl := Option.some.inj h0
  replace hS := hS.nilOwn (rI .i64)
  replace hS := hS.nilOwn (rI .i64)
  refine Exists.intro _ (And.intro (rs_cellA (k := 2) hS rfl rfl (.inl rfl) Fu25 rfl Fs25 rfl (rs_tmp hS rfl rs_nil)) ?_)
  have hI := hS.inv
  exact ⟨(.slice none 0 0), (.slice none 0 0), rfl, (((hI.pull 0 rfl).pull 1 rfl).take 2)⟩
 ·replace h0 := iteF hc h0
  refine c_reg fun R hR => ?_
  refine o_ldA (k := 2) hS (.inl rfl) rfl rfl rfl (.inl rfl) Fu25 rfl Fs25 rfl ?_; clear hS
  intro tm hS
  obtain ⟨r2, hx2, h0⟩ := bindS h0
  refine o_call hS (.inl rfl) rfl (fun wm' hw1 hw2 => wk53  a1  v1 v2 (((hS.sel hw2).ad 5 rfl).ad 4 rfl) hx2) (fun wm' res H hw' hp => ?_)
  obtain ⟨hres, hI⟩ := hp
  replace hres := hres.symm; subst hres
  replace hS : S wm 60 _ H ((18, .bool r2) :: _) ([] ++ _) Fr := hS.after rfl hw' hI
  clear hI hw'
  refine pp2 hS rfl rfl rfl rfl ?_; clear hS
  intro tm hS
  obtain ⟨c1, hc1, h0⟩ := bindS h0
  refine o_cutN 4 (J := fun tm H => S wm 60 tm H [(24, .bool c1), (3, .pointer (some ⟨b2, 0, none⟩)), (4, .pointer (some ⟨b3, 0, none⟩)), (5, .pointer (some ⟨b4, 0, none⟩)), (6, .pointer (some ⟨b5, 0, none⟩))] [.box b5 [.bool false, (.slice none 0 0), (.slice none 0 0)], .box b4 [.bool b1.Char, v3, v4], .box b3 [.bool a1.Char, v1, v2], .box b2 [.string fn1], .fz (rI .i64) v1 a1.Shape, .fz (rI .i64) v2 a1.Data, .fz (rI .i64) v3 b1.Shape, .fz (rI .i64) v4 b1.Data] Fr) ?_ ?_
  ·rcases Bool.eq_false_or_eq_true (!r2) with hg1 | hg1
   ·replace hc1 := iteT hg1 hc1
    refine o_skip hS rfl rfl rfl hg1 ?_; clear hS
    intro tm hS
    refine o_skip hS rfl rfl rfl hg1 ?_; clear hS
    intro tm hS
    refine o_skip hS rfl rfl rfl hg1 ?_; clear hS
    intro tm hS
    refine o_pickT hS (.inl rfl) rfl rfl hg1 rfl ?_; clear hS
    intro tm hS
    obtain rfl := Option.some.inj hc1
    exact o_nil (hS.keep (k5 rfl rfl rfl rfl rfl) (fun hI => (hI.sub (sc (sc (sc (sc (sc (sc (sc (sc sn)))))))))))
   ·replace hc1 := iteF hg1 hc1
    refine o_ldA (k := 1) hS (.inr ⟨_, _, _, _, rfl, rfl, rfl, hg1⟩) rfl rfl rfl (.inl rfl) Fu25 rfl Fs25 rfl ?_; clear hS
    intro tm hS
    obtain ⟨r3, hx3, hc1⟩ := bindS hc1
    refine o_call hS (.inr ⟨_, _, _, _, rfl, rfl, rfl, hg1⟩) rfl (fun wm' hw1 hw2 => wk53  b1  v3 v4 (((hS.sel hw2).ad 7 rfl).ad 6 rfl) hx3) (fun wm' res H hw' hp => ?_)
    obtain ⟨hres, hI⟩ := hp
    replace hres := hres.symm; subst hres
    replace hS : S wm 60 _ H ((22, .bool r3) :: _) ([] ++ _) Fr := hS.after rfl hw' hI
    clear hI hw'
    refine o_pure hS (.inr ⟨_, _, _, _, rfl, rfl, rfl, hg1⟩) rfl rfl ?_; clear hS
    intro tm hS
    refine o_pickF hS (.inl rfl) rfl rfl hg1 rfl ?_; clear hS
    intro tm hS
    obtain rfl := Option.some.inj hc1
    exact o_nil (hS.keep (k5 rfl rfl rfl rfl rfl) (fun hI => (hI.sub (sc (sc (sc (sc (sc (sc (sc (sc sn)))))))))))
  intro tm H hS
  refine pp1 hS rfl rfl ?_; clear hS
  intro tm hS
  refine o_nil (hR _ _ ?_)
  clear hR R
  refine c_cond hS rfl (fun hc => ?_) (fun hc => ?_)
  ·replace h0 := iteT hc h0
   refine c_reg fun R hR => ?_
   refine o_build hS (.inl rfl) rfl Fb25 rfl .nil rfl ?_; clear hS
   intro tm hS
   refine o_st (k := 0) hS (.inl rfl) rfl rfl rfl Fs25 rfl rfl (all_cons rfl (all_cons rfl (all_cons rfl all_nil))) rfl ?_; clear hS; try clear H
   intro H hS
   refine pp1 hS rfl rfl ?_; clear hS
   intro tm hS
   refine o_nil (hR _ _ ?_)
   clear hR R
   refine wpC.ret ?_
   obtain rfl := Option.some.inj h0
   replace hS := hS.nilOwn (rI .i64)
   replace hS := hS.nilOwn (rI .i64)
   refine Exists.intro _ (And.intro (rs_cellA (k := 2) hS rfl rfl (.inl rfl) Fu25 rfl Fs25 rfl (rs_tmp hS rfl rs_nil)) ?_)
   have hI := hS.inv
   exact ⟨(.slice none 0 0), (.slice none 0 0), rfl, (((hI.pull 0 rfl).pull 1 rfl).take 2)⟩
  ·replace h0 := iteF hc h0
   refine wpC.skip ?_
   refine c_reg fun R hR => ?_
   refine o_ldA (k := 2) hS (.inl rfl) rfl rfl rfl (.inl rfl) Fu25 rfl Fs25 rfl ?_; clear hS
   intro tm hS
   refine o_ldA (k := 1) hS (.inl rfl) rfl rfl rfl (.inl rfl) Fu25 rfl Fs25 rfl ?_; clear hS
   intro tm hS
   obtain ⟨⟨r4, r5, r6⟩, hx4, h0⟩ := bindS h0
   refine o_call hS (.inl rfl) rfl (fun wm' hw1 hw2 => wk54  a1 b1  v1 v2 v3 v4 (((((hS.sel hw2).ad 7 rfl).ad 6 rfl).ad 5 rfl).ad 4 rfl) hx4) (fun wm' res H hw' hp => ?_)
   obtain ⟨v5, hres, hI⟩ := hp
   replace hres := hres.symm; subst hres
   replace hS : S wm 60 _ H ((29, .tuple #[v5, .int .i64 r5, .int .i64 r6]) :: _) ([.fz (rI .i64) v5 r4] ++ _) Fr := hS.after rfl hw' hI
   clear hI hw'
   refine pp6 hS rfl rfl rfl rfl rfl rfl rfl rfl rfl rfl rfl rfl ?_; clear hS
   intro tm hS
   refine pp1 hS rfl rfl ?_; clear hS
   intro tm hS
   refine o_nil (hR _ _ ?_)
   clear hR R
   refine c_seqS ?_
   refine wpC.block ?_
   refine cr3 hS rfl rfl rfl rfl rfl rfl ?_; clear hS
   intro tm hS
   refine c_cond hS rfl (fun hc => ?_) (fun hc => ?_)
   ·replace h0 := iteT hc h0
    refine c_reg fun R hR => ?_
    refine o_build hS (.inl rfl) rfl Fb25 rfl .nil rfl ?_; clear hS
    intro tm hS
    refine pp1 hS rfl rfl ?_; clear hS
    intro tm hS
    refine o_st (k := 1) hS (.inl rfl) rfl rfl rfl Fs25 rfl rfl (all_cons rfl (all_cons rfl (all_cons rfl all_nil))) rfl ?_; clear hS; try clear H
    intro H hS
    refine pp1 hS rfl rfl ?_; clear hS
    intro tm hS
    refine o_nil (hR _ _ ?_)
    clear hR R
    refine wpC.ret ?_
    obtain rfl := Option.some.inj h0
    replace hS := hS.nilOwn (rI .i64)
    replace hS := hS.nilOwn (rI .i64)
    refine Exists.intro _ (And.intro (rs_cellA (k := 3) hS rfl rfl (.inl rfl) Fu25 rfl Fs25 rfl (rs_tmp hS rfl rs_nil)) ?_)
    have hI := hS.inv
    exact ⟨(.slice none 0 0), (.slice none 0 0), rfl, (((hI.pull 0 rfl).pull 1 rfl).take 2)⟩
   ·replace h0 := iteF hc h0
    refine c_reg fun R hR => ?_
    refine pp1 hS rfl rfl ?_; clear hS
    intro tm hS
    refine o_ld1 (k := 3) hS (.inl rfl) rfl rfl rfl (.inl rfl) Fu4 rfl rfl ?_; clear hS
    intro tm hS
    refine pp1 hS rfl rfl ?_; clear hS
    intro tm hS
    obtain ⟨c2, hc2⟩ : ∃ x : Bool, x = (a1.Char || b1.Char) := ⟨_, rfl⟩
    refine o_cutN 3 (J := fun tm H => S wm 60 tm H [(44, .bool c2), (3, .pointer (some ⟨b2, 0, none⟩)), (4, .pointer (some ⟨b3, 0, none⟩)), (5, .pointer (some ⟨b4, 0, none⟩)), (6, .pointer (some ⟨b5, 0, none⟩)), (8, v5), (9, .int .i64 r5)] [.fz (rI .i64) v5 r4, .box b5 [.bool false, (.slice none 0 0), (.slice none 0 0)], .box b4 [.bool b1.Char, v3, v4], .box b3 [.bool a1.Char, v1, v2], .box b2 [.string fn1], .fz (rI .i64) v1 a1.Shape, .fz (rI .i64) v2 a1.Data, .fz (rI .i64) v3 b1.Shape, .fz (rI .i64) v4 b1.Data] Fr) ?_ ?_
    ·rcases Bool.eq_false_or_eq_true a1.Char with hg2 | hg2
     ·refine o_skip hS rfl rfl rfl hg2 ?_; clear hS
      intro tm hS
      refine o_skip hS rfl rfl rfl hg2 ?_; clear hS
      intro tm hS
      refine o_pickT hS (.inl rfl) rfl rfl hg2 rfl ?_; clear hS
      intro tm hS
      have hc2 : c2 = true := hc2.trans (by rw [hg2]; first | rfl | simp)
      subst hc2
      exact o_nil (hS.keep (k7 rfl rfl rfl rfl rfl rfl rfl) (fun hI => (hI.sub (sc (sc (sc (sc (sc (sc (sc (sc (sc sn))))))))))))
     ·refine o_pure hS (.inr ⟨_, _, _, _, rfl, rfl, rfl, hg2⟩) rfl rfl ?_; clear hS
      intro tm hS
      refine o_ld1 (k := 2) hS (.inr ⟨_, _, _, _, rfl, rfl, rfl, hg2⟩) rfl rfl rfl (.inl rfl) Fu4 rfl rfl ?_; clear hS
      intro tm hS
      refine o_pickF hS (.inl rfl) rfl rfl hg2 rfl ?_; clear hS
      intro tm hS
      have hc2 : c2 = b1.Char := hc2.trans (by rw [hg2]; first | rfl | simp)
      subst hc2
      exact o_nil (hS.keep (k7 rfl rfl rfl rfl rfl rfl rfl) (fun hI => (hI.sub (sc (sc (sc (sc (sc (sc (sc (sc (sc sn))))))))))))
    intro tm H hS
    subst hc2
    refine pp1 hS rfl rfl ?_; clear hS
    intro tm hS
    obtain ⟨c3, hc3⟩ : ∃ x : Bool, x = ((a1.Char || b1.Char) && (!(fn1.toList == str_61.toList))) := ⟨_, rfl⟩
    refine o_cutN 3 (J := fun tm H => S wm 60 tm H [(48, .bool c3), (3, .pointer (some ⟨b2, 0, none⟩)), (4, .pointer (some ⟨b3, 0, none⟩)), (5, .pointer (some ⟨b4, 0, none⟩)), (6, .pointer (some ⟨b5, 0, none⟩)), (8, v5), (9, .int .i64 r5)] [.fz (rI .i64) v5 r4, .box b5 [.bool false, (.slice none 0 0), (.slice none 0 0)], .box b4 [.bool b1.Char, v3, v4], .box b3 [.bool a1.Char, v1, v2], .box b2 [.string fn1], .fz (rI .i64) v1 a1.Shape, .fz (rI .i64) v2 a1.Data, .fz (rI .i64) v3 b1.Shape, .fz (rI .i64) v4 b1.Data] Fr) ?_ ?_
    ·rcases Bool.eq_false_or_eq_true (a1.Char || b1.Char) with hg3 | hg3
     ·refine o_ld1 (k := 4) hS (.inr ⟨_, _, _, _, rfl, rfl, rfl, hg3⟩) rfl rfl rfl (.inl rfl) Fu9 rfl rfl ?_; clear hS
      intro tm hS
      refine o_pure hS (.inr ⟨_, _, _, _, rfl, rfl, rfl, hg3⟩) rfl rfl ?_; clear hS
      intro tm hS
      refine o_pickT hS (.inl rfl) rfl rfl hg3 rfl ?_; clear hS
      intro tm hS
      have hc3 : c3 = (!(fn1.toList == str_61.toList)) := hc3.trans (by rw [hg3]; first | rfl | simp)
      subst hc3
      exact o_nil (hS.keep (k7 rfl rfl rfl rfl rfl rfl rfl) (fun hI => (hI.sub (sc (sc (sc (sc (sc (sc (sc (sc (sc sn))))))))))))
     ·refine o_skip hS rfl rfl rfl hg3 ?_; clear hS
      intro tm hS
      refine o_skip hS rfl rfl rfl hg3 ?_; clear hS
      intro tm hS
      refine o_pickF hS (.inl rfl) rfl rfl hg3 rfl ?_; clear hS
      intro tm hS
      have hc3 : c3 = false := hc3.trans (by rw [hg3]; first | rfl | simp)
      subst hc3
      exact o_nil (hS.keep (k7 rfl rfl rfl rfl rfl rfl rfl) (fun hI => (hI.sub (sc (sc (sc (sc (sc (sc (sc (sc (sc sn))))))))))))
    intro tm H hS
    subst hc3
    refine pp1 hS rfl rfl ?_; clear hS
    intro tm hS
    obtain ⟨c4, hc4⟩ : ∃ x : Bool, x = (((a1.Char || b1.Char) && (!(fn1.toList == str_61.toList))) && (!(fn1.toList == str_226_137_160.toList))) := ⟨_, rfl⟩
    refine o_cutN 3 (J := fun tm H => S wm 60 tm H [(52, .bool c4), (3, .pointer (some ⟨b2, 0, none⟩)), (4, .pointer (some ⟨b3, 0, none⟩)), (5, .pointer (some ⟨b4, 0, none⟩)), (6, .pointer (some ⟨b5, 0, none⟩)), (8, v5), (9, .int .i64 r5)] [.fz (rI .i64) v5 r4, .box b5 [.bool false, (.slice none 0 0), (.slice none 0 0)], .box b4 [.bool b1.Char, v3, v4], .box b3 [.bool a1.Char, v1, v2], .box b2 [.string fn1], .fz (rI .i64) v1 a1.Shape, .fz (rI .i64) v2 a1.Data, .fz (rI .i64) v3 b1.Shape, .fz (rI .i64) v4 b1.Data] Fr) ?_ ?_
    ·rcases Bool.eq_false_or_eq_true ((a1.Char || b1.Char) && (!(fn1.toList == str_61.toList))) with hg4 | hg4
     ·refine o_ld1 (k := 4) hS (.inr ⟨_, _, _, _, rfl, rfl, rfl, hg4⟩) rfl rfl rfl (.inl rfl) Fu9 rfl rfl ?_; clear hS
      intro tm hS
      refine o_pure hS (.inr ⟨_, _, _, _, rfl, rfl, rfl, hg4⟩) rfl rfl ?_; clear hS
      intro tm hS
      refine o_pickT hS (.inl rfl) rfl rfl hg4 rfl ?_; clear hS
      intro tm hS
      have hc4 : c4 = (!(fn1.toList == str_226_137_160.toList)) := hc4.trans (by rw [hg4]; first | rfl | simp)
      subst hc4
      exact o_nil (hS.keep (k7 rfl rfl rfl rfl rfl rfl rfl) (fun hI => (hI.sub (sc (sc (sc (sc (sc (sc (sc (sc (sc sn))))))))))))
     ·refine o_skip hS rfl rfl rfl hg4 ?_; clear hS
      intro tm hS
      refine o_skip hS rfl rfl rfl hg4 ?_; clear hS
      intro tm hS
      refine o_pickF hS (.inl rfl) rfl rfl hg4 rfl ?_; clear hS
      intro tm hS
      have hc4 : c4 = false := hc4.trans (by rw [hg4]; first | rfl | simp)
      subst hc4
      exact o_nil (hS.keep (k7 rfl rfl rfl rfl rfl rfl rfl) (fun hI => (hI.sub (sc (sc (sc (sc (sc (sc (sc (sc (sc sn))))))))))))
    intro tm H hS
    subst hc4
    refine pp1 hS rfl rfl ?_; clear hS
    intro tm hS
    refine o_nil (hR _ _ ?_)
    clear hR R
    refine c_cond hS rfl (fun hc => ?_) (fun hc => ?_)
    ·replace h0 := iteT hc h0
     refine c_reg fun R hR => ?_
     refine o_build hS (.inl rfl) rfl Fb25 rfl .nil rfl ?_; clear hS
     intro tm hS
     refine o_st (k := 1) hS (.inl rfl) rfl rfl rfl Fs25 rfl rfl (all_cons rfl (all_cons rfl (all_cons rfl all_nil))) rfl ?_; clear hS; try clear H
     intro H hS
     refine pp1 hS rfl rfl ?_; clear hS
     intro tm hS
     refine o_nil (hR _ _ ?_)
     clear hR R
     refine wpC.ret ?_
     obtain rfl := Option.some.inj h0
     replace hS := hS.nilOwn (rI .i64)
     replace hS := hS.nilOwn (rI .i64)
     refine Exists.intro _ (And.intro (rs_cellA (k := 3) hS rfl rfl (.inl rfl) Fu25 rfl Fs25 rfl (rs_tmp hS rfl rs_nil)) ?_)
     have hI := hS.inv
     exact ⟨(.slice none 0 0), (.slice none 0 0), rfl, (((hI.pull 0 rfl).pull 1 rfl).take 2)⟩
    ·replace h0 := iteF hc h0
     refine wpC.skip ?_
     refine c_reg fun R hR => ?_
     refine pp3 hS rfl rfl rfl rfl rfl rfl ?_; clear hS
     intro tm hS
     replace hS := hS.frzBox (k := 4) rfl
     replace hS := hS.frzBox (k := 3) rfl
     replace hS := hS.frzBox (k := 2) rfl
     obtain ⟨⟨r7, r8⟩, hx5, h0⟩ := bindS h0
     refine o_call hS (.inl rfl) rfl (fun wm' hw1 hw2 => wk55  r4 r5 (fun x0 => M.scalar_Dyad_1 x0 fn1 a1 b1) 56 #[.pointer (some ⟨b2, 0, none⟩), .pointer (some ⟨b3, 0, none⟩), .pointer (some ⟨b4, 0, none⟩)] [.fbox b2 [.string fn1], .fz (rI .i64) v1 a1.Shape, .fz (rI .i64) v2 a1.Data, .fbox b3 [.bool a1.Char, v1, v2], .fz (rI .i64) v3 b1.Shape, .fz (rI .i64) v4 b1.Data, .fbox b4 [.bool b1.Char, v3, v4]] (by simp [Ent.blk]) (fun x0 hI _ h0 => wk56 ho100 x0 fn1 a1 b1  b2 v1 v2 b3 v3 v4 b4 hI h0) v5 (((((((((hS.sel hw2).adB 2 rfl).ad 8 rfl).ad 7 rfl).adB 3 rfl).ad 6 rfl).ad 5 rfl).adB 4 rfl).ad 0 rfl) hx5) (fun wm' res H hw' hp => ?_)
     obtain ⟨v6, v7, hres, hI⟩ := hp
     replace hres := hres.symm; subst hres
     replace hS : S wm 60 _ H ((57, .tuple #[.agg #[.bool r7.Char, v6, v7], .int .i64 r8]) :: _) ([.own (rI .i64) v6 r7.Shape, .own (rI .i64) v7 r7.Data] ++ _) Fr := hS.after rfl hw' hI
     clear hI hw'
     refine pp2 hS rfl rfl rfl rfl ?_; clear hS
     intro tm hS
     refine o_st (k := 3) hS (.inl rfl) rfl rfl rfl Fs25 rfl rfl (all_cons rfl (all_cons (hS.one (k := 0) rfl (.inr (.inl rfl))) (all_cons (hS.one (k := 1) rfl (.inr (.inl rfl))) all_nil))) rfl ?_; clear hS; try clear H
     intro H hS
     refine pp1 hS rfl rfl ?_; clear hS
     intro tm hS
     refine o_nil (hR _ _ ?_)
     clear hR R
     refine wpC.ret ?_
     obtain rfl := Option.some.inj h0
     refine Exists.intro _ (And.intro (rs_cellA (k := 3) hS rfl rfl (.inl rfl) Fu25 rfl Fs25 rfl (rs_tmp hS rfl rs_nil)) ?_)
     have hI := hS.inv
     exact ⟨v6, v7, rfl, (hI.sub (sc (sc sn)))⟩
theorem wk30 {wm : Nat} {H : AHeap} {Fr : List Ent} (s1 : (List Int)) (v1 : Value) (hI : Kn wm H [.fz (rI .i64) v1 s1] Fr) {r : (List Int)} (h0 : M.slices_Clone__int64 s1 = some r) :
  wpF Try.prog ora wm 30 [v1] H (fun res H => ∃ v2, res = v2 ∧ Kn wm H [.own (rI .i64) v2 r] Fr) := by
 unfold M.slices_Clone__int64 at h0
 refine f_enter (n := 8) Try.func30 rfl (by simp) hI rfl rfl rfl fun tm hS => ?_
 refine c_reg fun R hR => ?_
 refine o_pure hS (.inl rfl) rfl rfl fun tm hS => ?_
 refine o_nil (hR _ _ ?_)
 refine c_seqS ?_
 refine c_reg fun R hR => ?_
 refine o_pure hS (.inl rfl) rfl rfl fun tm hS => ?_
 refine o_nilcmp (k := 0) (r := (rI .i64)) hS (.inl rfl) rfl rfl rfl rfl (.inl rfl) Fu23 (fun hl tm hS => ?_) (fun tm hS => ?_)
 ·subst hl
  have hr : r = [] := by simpa [app] using h0.symm
  subst hr
  refine o_nil (hR _ _ ?_)
  refine c_cond hS rfl (fun _ => ?_) (fun h => by cases h)
  refine c_reg fun R hR => ?_
  refine o_pure hS (.inl rfl) rfl rfl fun tm hS => ?_
  refine o_nil (hR _ _ ?_)
  refine wpC.ret ?_
  replace hS := hS.nilOwn (rI .i64)
  refine Exists.intro _ (And.intro (rs_tmp hS rfl rs_nil) ?_)
  exact ⟨_, rfl, hS.inv.take 1⟩
 ·refine o_nil (hR _ _ ?_)
  refine c_cond hS rfl (fun h => by cases h) (fun _ => ?_)
  refine wpC.skip ?_
  refine c_reg fun R hR => ?_
  refine o_lit (r := (rI .i64)) (l := []) hS (.inl rfl) rfl Fl23 rfl rfl rfl .nil rfl rfl ri_nil rfl fun v2 tm H hS => ?_
  refine o_pure hS (.inl rfl) rfl rfl fun tm hS => ?_
  refine o_appL (k1 := 0) (k2 := 1) (r := (rI .i64)) hS (.inl rfl) rfl rfl rfl rfl rfl (.inl rfl) rfl Fe23_23 h0 fun v3 tm H hS => ?_
  refine o_pure hS (.inl rfl) rfl rfl fun tm hS => ?_
  refine o_nil (hR _ _ ?_)
  refine wpC.ret ?_
  refine Exists.intro _ (And.intro (rs_tmp hS rfl rs_nil) ?_)
  exact ⟨_, rfl, hS.inv.take 1⟩
theorem wk32 {wm : Nat} {H : AHeap} {Fr : List Ent}  (v1 : Val)  (v2 : Value) (v3 : Value) (hI : Kn wm H [.fz (rI .i64) v2 v1.Shape, .fz (rI .i64) v3 v1.Data] Fr) {r : Val} (h0 : M.value_Copy v1 = some r) :
  wpF Try.prog ora wm 32 [.agg #[.bool v1.Char, v2, v3]] H (fun res H => ∃ v6 v7, res = .agg #[.bool r.Char, v6, v7] ∧ Kn wm H [.own (rI .i64) v6 r.Shape, .own (rI .i64) v7 r.Data] Fr) := by
 unfold M.value_Copy at h0
 refine f_enter (n := 12) Try.func32 rfl (by simp) hI rfl rfl rfl fun tm hS => ?_
 clear hI
 refine c_reg fun R hR => ?_
 refine o_box hS (.inl rfl) rfl rfl rfl (all_cons rfl (all_cons (hS.one (k := 0) rfl (.inl rfl)) (all_cons (hS.one (k := 1) rfl (.inl rfl)) all_nil))) ?_; clear hS
 intro b1 tm H hS
 refine o_alloc hS (.inl rfl) rfl Fz25 (by decide) ?_; clear hS
 intro b2 tm H hS
 refine o_nil (hR _ _ ?_)
 clear hR R
 refine c_reg fun R hR => ?_
 refine pp1 hS rfl rfl ?_; clear hS
 intro tm hS
 refine o_ld1 (k := 1) hS (.inl rfl) rfl rfl rfl (.inl rfl) Fu4 rfl rfl ?_; clear hS
 intro tm hS
 refine pp1 hS rfl rfl ?_; clear hS
 intro tm hS
 refine o_ld1 (k := 1) hS (.inl rfl) rfl rfl rfl (.inl rfl) Fu22 rfl rfl ?_; clear hS
 intro tm hS
 obtain ⟨r1, hx1, h0⟩ := bindS h0
 refine o_call hS (.inl rfl) rfl (fun wm' hw1 hw2 => wk62  v1.Shape  v2 ((hS.sel hw2).ad 2 rfl) hx1) (fun wm' res H hw' hp => ?_)
 obtain ⟨v4, hres, hI⟩ := hp
 replace hres := hres.symm; subst hres
 replace hS : S wm 12 _ H ((7, v4) :: _) ([.own (rI .i64) v4 r1] ++ _) Fr := hS.after rfl hw' hI
 clear hI hw'
 refine pp1 hS rfl rfl ?_; clear hS
 intro tm hS
 refine o_ld1 (k := 2) hS (.inl rfl) rfl rfl rfl (.inl rfl) Fu23 rfl rfl ?_; clear hS
 intro tm hS
 obtain ⟨r2, hx2, h0⟩ := bindS h0
 refine o_call hS (.inl rfl) rfl (fun wm' hw1 hw2 => wk30  v1.Data  v3 ((hS.sel hw2).ad 4 rfl) hx2) (fun wm' res H hw' hp => ?_)
 obtain ⟨v5, hres, hI⟩ := hp
 replace hres := hres.symm; subst hres
 replace hS : S wm 12 _ H ((10, v5) :: _) ([.own (rI .i64) v5 r2] ++ _) Fr := hS.after rfl hw' hI
 clear hI hw'
 refine o_build hS (.inl rfl) rfl Fb25 rfl (.cons rfl (.cons (cells_one (hS.one (k := 1) rfl (.inr (.inl rfl)))) (.cons (cells_one (hS.one (k := 0) rfl (.inr (.inl rfl)))) .nil))) rfl ?_; clear hS
 intro tm hS
 refine o_st (k := 2) hS (.inl rfl) rfl rfl rfl Fs25 rfl rfl (all_cons rfl (all_cons (hS.one (k := 1) rfl (.inr (.inl rfl))) (all_cons (hS.one (k := 0) rfl (.inr (.inl rfl))) all_nil))) rfl ?_; clear hS; try clear H
 intro H hS
 refine o_nil (hR _ _ ?_)
 clear hR R
 refine wpC.ret ?_
 obtain rfl := Option.some.inj h0
 refine Exists.intro _ (And.intro (rs_cellA (k := 2) hS rfl rfl (.inl rfl) Fu25 rfl Fs25 rfl rs_nil) ?_)
 have hI := hS.inv
 exact ⟨v4, v5, rfl, (((hI.pull 0 rfl).pull 1 rfl).take 2)⟩
theorem wk33 {wm : Nat} {H : AHeap} {Fr : List Ent}  (v1 : Val) (axis1 : Int)  (v2 : Value) (v3 : Value) (hI : Kn wm H [.fz (rI .i64) v2 v1.Shape, .fz (rI .i64) v3 v1.Data] Fr) {r : Int × Bool} (h0 : M.over_along v1 axis1 = some r) :
  wpF Try.prog ora wm 33 [.agg #[.bool v1.Char, v2, v3], .int .i64 axis1] H (fun res H => res = .tuple #[.int .i64 r.1, .bool r.2] ∧ Kn wm H [] Fr) := by
 unfold M.over_along at h0
 refine f_enter (n := 22) Try.func33 rfl (by simp) hI rfl rfl rfl fun tm hS => ?_
 clear hI
 refine c_reg fun R hR => ?_
 refine o_box hS (.inl rfl) rfl rfl rfl (all_cons rfl (all_cons (hS.one (k := 0) rfl (.inl rfl)) (all_cons (hS.one (k := 1) rfl (.inl rfl)) all_nil))) ?_; clear hS
 intro b1 tm H hS
 refine pp2 hS rfl rfl rfl rfl ?_; clear hS
 intro tm hS
 refine o_nil (hR _ _ ?_)
 clear hR R
 obtain ⟨axis2, h1, h0⟩ := bindS h0
 refine c_seqJ (J := fun tm H => (match (generalizing := false) axis2 with | axis2 => S wm 22 tm H [(1, .int .i64 axis2), (2, .pointer (some ⟨b1, 0, none⟩))] [.box b1 [.bool v1.Char, v2, v3], .fz (rI .i64) v2 v1.Shape, .fz (rI .i64) v3 v1.Data] Fr)) ?_ ?_
 ·refine cr2 hS rfl rfl rfl rfl ?_; clear hS
  intro tm hS
  refine c_cond hS rfl (fun hc => ?_) (fun hc => ?_)
  ·replace h1 := iteT hc h1
   refine c_reg1 fun R hR => ?_
   refine pp1 hS rfl rfl ?_; clear hS
   intro tm hS
   refine o_ld1 (k := 0) hS (.inl rfl) rfl rfl rfl (.inl rfl) Fu22 rfl rfl ?_; clear hS
   intro tm hS
   refine o_len (k := 1) (r := (rI .i64)) hS (.inl rfl) rfl rfl rfl (.inl rfl) Fu22 rfl ?_; clear hS
   intro tm hS
   refine pp2 hS rfl rfl rfl rfl ?_; clear hS
   intro tm hS
   refine o_nil (hR _ _ ?_)
   clear hR R
   obtain rfl := Option.some.inj h1
   change S wm 22 _ _ _ _ Fr; exact hS.keep (k2 rfl rfl) (fun hI => (hI.sub (sc (sc (sc sn)))))
  ·replace h1 := iteF hc h1
   refine wpC.skip ?_
   obtain rfl := Option.some.inj h1
   change S wm 22 _ _ _ _ Fr; exact hS.keep (k2 rfl rfl) (fun hI => (hI.sub (sc (sc (sc sn)))))
 intro tm H hS
 change S wm 22 tm H [(1, .int .i64 axis2), (2, .pointer (some ⟨b1, 0, none⟩))] [.box b1 [.bool v1.Char, v2, v3], .fz (rI .i64) v2 v1.Shape, .fz (rI .i64) v3 v1.Data] Fr at hS
 refine c_reg fun R hR => ?_
 refine pp4 hS rfl rfl rfl rfl rfl rfl rfl rfl ?_; clear hS
 intro tm hS
 obtain ⟨c1, hc1⟩ : ∃ x : Bool, x = ((decide (axis2 ≥ 0)) && (decide (axis2 < (v1.Shape.length : Int)))) := ⟨_, rfl⟩
 refine o_cutN 6 (J := fun tm H => S wm 22 tm H [(21, .bool c1), (12, .int .i64 axis2)] [] Fr) ?_ ?_
 ·rcases Bool.eq_false_or_eq_true (decide (axis2 ≥ 0)) with hg1 | hg1
  ·refine o_pure hS (.inr ⟨_, _, _, _, rfl, rfl, rfl, hg1⟩) rfl rfl ?_; clear hS
   intro tm hS
   refine o_pure hS (.inr ⟨_, _, _, _, rfl, rfl, rfl, hg1⟩) rfl rfl ?_; clear hS
   intro tm hS
   refine o_ld1 (k := 0) hS (.inr ⟨_, _, _, _, rfl, rfl, rfl, hg1⟩) rfl rfl rfl (.inl rfl) Fu22 rfl rfl ?_; clear hS
   intro tm hS
   refine o_len (k := 1) (r := (rI .i64)) hS (.inr ⟨_, _, _, _, rfl, rfl, rfl, hg1⟩) rfl rfl rfl (.inl rfl) Fu22 rfl ?_; clear hS
   intro tm hS
   refine o_pure hS (.inr ⟨_, _, _, _, rfl, rfl, rfl, hg1⟩) rfl rfl ?_; clear hS
   intro tm hS
   refine o_pickT hS (.inl rfl) rfl rfl hg1 rfl ?_; clear hS
   intro tm hS
   have hc1 : c1 = (decide (axis2 < (v1.Shape.length : Int))) := hc1.trans (by rw [hg1]; first | rfl | simp)
   subst hc1
   exact o_nil (hS.keep (k2 rfl rfl) (fun hI => (hI.sub sn)))
  ·refine o_skip hS rfl rfl rfl hg1 ?_; clear hS
   intro tm hS
   refine o_skip hS rfl rfl rfl hg1 ?_; clear hS
   intro tm hS
   refine o_skip hS rfl rfl rfl hg1 ?_; clear hS
   intro tm hS
   refine o_skip hS rfl rfl rfl hg1 ?_; clear hS
   intro tm hS
   refine o_skip hS rfl rfl rfl hg1 ?_; clear hS
   intro tm hS
   refine o_pickF hS (.inl rfl) rfl rfl hg1 rfl ?_; clear hS
   intro tm hS
   have hc1 : c1 = false := hc1.trans (by rw [hg1]; first | rfl | simp)
   subst hc1
   exact o_nil (hS.keep (k2 rfl rfl) (fun hI => (hI.sub sn)))
 intro tm H hS
 subst hc1
 refine pp2 hS rfl rfl rfl rfl ?_; clear hS
 intro tm hS
 refine o_nil (hR _ _ ?_)
 clear hR R
 refine wpC.ret ?_
 obtain rfl := Option.some.inj h0
 refine Exists.intro _ (And.intro (rs_tmp hS rfl (rs_tmp hS rfl rs_nil)) ?_)
 have hI := hS.inv
 exact ⟨rfl, (hI.sub sn)⟩
theorem wk63 {wm : Nat} {H : AHeap} {Fr : List Ent} (s1 : (List Int)) (i1 j1 : Int) (v1 : Value) (hI : Kn wm H [.own (rI .i64) v1 s1] Fr) {r : (List Int)} (h0 : M.slices_Delete__int s1 i1 j1 = some r) :
  wpF Try.prog ora wm 63 [v1, .int .i64 i1, .int .i64 j1] H (fun res H => ∃ v2, res = v2 ∧ Kn wm H [.own (rI .i64) v2 r] Fr) := by
 unfold M.slices_Delete__int del at h0
 split at h0
 case isFalse => cases h0
 rename_i hij
 obtain rfl := Option.some.inj h0
 obtain ⟨i, rfl⟩ : ∃ i : Nat, i1 = i := ⟨i1.toNat, by omega⟩
 obtain ⟨j, rfl⟩ : ∃ j : Nat, j1 = j := ⟨j1.toNat, by omega⟩
 simp only [Int.toNat_natCast]
 have hi : i ≤ j := by omega
 have hj : j ≤ s1.length := by omega
 obtain ⟨Z, hK⟩ := hI
 have hsh := hK.slAt (k := 0) (r := (rI .i64)) (v := v1) (l := s1) rfl (.inr (.inl rfl))
 refine f_enter (n := 33) Try.func63 rfl (by simp) ⟨Z, hK⟩ rfl rfl rfl fun tm hS => ?_
 refine c_reg fun R hR => ?_
 refine o_pure hS (.inl rfl) rfl rfl fun tm hS => ?_
 refine o_nil (hR _ _ ?_)
 refine c_reg fun R hR => ?_
 refine o_pure hS (.inl rfl) rfl rfl fun tm hS => ?_
 refine o_pure hS (.inl rfl) rfl rfl fun tm hS => ?_
 refine o_pure hS (.inl rfl) rfl rfl fun tm hS => ?_
 refine o_pure hS (.inl rfl) rfl rfl fun tm hS => ?_
 refine o_len (k := 0) (r := (rI .i64)) hS (.inl rfl) rfl rfl rfl (.inr (.inl rfl)) Fu22 rfl fun tm hS => ?_
 have hsl : ∃ v, aSlice Try.prog H 22 v1 (some (.int .i64 (i : Int))) (some (.int .i64 (j : Int))) (some (.int .i64 (s1.length : Int))) = some v := by
  rcases hsh with ⟨rfl, rfl⟩ | ⟨b, o, cap, own, gr, cells, cs, rfl, q1, q2, q3, q4⟩
  ·obtain rfl : i = 0 := by simp at hj; omega
   obtain rfl : j = 0 := by simp at hj; omega
   have e : bnd 0 (some (.int .i64 ((0 : Nat) : Int))) = some (some 0) := bnd_some (Nat.le_refl 0)
   have e' : bnd 0 (some (.int .i64 (([] : (List Int)).length : Int))) = some (some 0) := bnd_some (Nat.le_refl 0)
   refine ⟨.slice none 0 0, ?_⟩
   unfold aSlice
   simp only [Fu22, Fs3, e, e', Option.isSome_some, Option.isNone_some, Bool.and_false, Bool.false_eq_true, if_false, Option.getD_some]
  ·exact ⟨_, aSlice_row Fu22 Fs3 q2 (bnd_some q1) rfl (bnd_some hj) (bnd_some hi)⟩
 obtain ⟨sv, hsv⟩ := hsl
 refine o_sliceV hS (.inl rfl) rfl rfl (vlo := [.int .i64 (i : Int)]) (vhi := [.int .i64 (j : Int)]) (vmx := [.int .i64 (s1.length : Int)]) rfl rfl rfl hsv fun tm hS => ?_
 refine o_nil (hR _ _ ?_)
 refine c_seqS ?_
 refine c_reg fun R hR => ?_
 refine o_pure hS (.inl rfl) rfl rfl fun tm hS => ?_
 refine o_pure hS (.inl rfl) rfl rfl fun tm hS => ?_
 refine o_pure hS (.inl rfl) rfl rfl fun tm hS => ?_
 refine o_nil (hR _ _ ?_)
 refine c_cond hS rfl (fun hc => ?_) (fun hc => ?_)
 ·refine c_reg fun R hR => ?_
  refine o_pure hS (.inl rfl) rfl rfl fun tm hS => ?_
  refine o_pure hS (.inl rfl) rfl rfl fun tm hS => ?_
  refine o_nil (hR _ _ ?_)
  refine wpC.ret ?_
  have hij2 : i = j := by
   have : (i : Int) = (j : Int) := by simpa using hc
   omega
  subst hij2
  rw [List.take_append_drop]
  refine Exists.intro _ (And.intro (rs_tmp hS rfl rs_nil) ?_)
  exact ⟨_, rfl, hS.inv⟩
 ·have hlt : i < j := by
   have : ¬ ((i : Int) = (j : Int)) := by simpa using hc
   omega
  refine wpC.skip ?_
  refine c_reg fun R hR => ?_
  refine o_pure hS (.inl rfl) rfl rfl fun tm hS => ?_
  refine o_len (k := 0) (r := (rI .i64)) hS (.inl rfl) rfl rfl rfl (.inr (.inl rfl)) Fu22 rfl fun tm hS => ?_
  refine o_pure hS (.inl rfl) rfl rfl fun tm hS => ?_
  refine o_nil (hR _ _ ?_)
  rcases hsh with ⟨rfl, rfl⟩ | ⟨b, o, cap, own0, gr0, cells0, cs0, rfl, q1, _, _, _⟩
  ·simp at hj; omega
  obtain ⟨_, hwm, hbn, gr, cells, cs, g1, g2, g3, g4, g5⟩ := hK.ownAt (k := 0) rfl
  have hsz1 : ((rI .i64)).sz = 1 := rfl
  rw [hsz1] at g1 g2 g4
  simp only [Nat.mul_one] at g2 g4
  have hcl : cs.length = s1.length := by have := g5.len; rw [hsz1] at this; omega
  refine c_reg fun R hR => ?_
  refine o_pure hS (.inl rfl) rfl rfl fun tm hS => ?_
  refine o_pure hS (.inl rfl) rfl rfl fun tm hS => ?_
  refine o_sliceV hS (.inl rfl) rfl rfl (vlo := []) (vhi := [.int .i64 (i : Int)]) (vmx := []) rfl rfl rfl (aSlice_row Fu22 Fs3 g1 (m := none) (h := some i) (l := none) rfl rfl (bnd_some (by simp; omega)) rfl) fun tm hS => ?_
  refine o_pure hS (.inl rfl) rfl rfl fun tm hS => ?_
  refine o_pure hS (.inl rfl) rfl rfl fun tm hS => ?_
  refine o_sliceV hS (.inl rfl) rfl rfl (vlo := [.int .i64 (j : Int)]) (vhi := []) (vmx := []) rfl rfl rfl (aSlice_row Fu22 Fs3 g1 (m := none) (h := none) (l := some j) rfl rfl rfl (bnd_some hj)) fun tm hS => ?_
  simp only [Option.getD_none, Option.getD_some, Nat.sub_zero, Nat.zero_mul, Nat.add_zero, Nat.mul_one] at hS ⊢
  have hcut2 : cut cells (o + j) (s1.length - j) = some ((cs.drop j).take (s1.length - j)) := cut_part g4 (by omega)
  have hdr : (cs.drop j).take (s1.length - j) = cs.drop j := List.take_of_length_le (by simp; omega)
  rw [hdr] at hcut2
  have hrow1 : rowOf (rI .i64) Z (cs.take i) (s1.take i) := by have := g5.take i; rw [hsz1, Nat.mul_one] at this; exact this
  have hrow2 : rowOf (rI .i64) Z (cs.drop j) (s1.drop j) := by have := g5.drop j; rw [hsz1, Nat.mul_one] at this; exact this
  have hcut1 : cut cells o i = some (cs.take i) := by have := cut_part (i := 0) (k := i) g4 (by omega); simpa using this
  have ha : ∃ cells2 gr2, ∃ H2, aAppend Try.prog wm H 22 22 (.slice (some ⟨b, o, none⟩) i cap) (.slice (some ⟨b, o + j, none⟩) (s1.length - j) (cap - j)) = some (.slice (some ⟨b, o, none⟩) (i + (s1.length - j)) cap, H2) ∧
    H2.get b = some (.row true gr2 1 cells2) ∧ cells2.length = cells.length ∧ Kn0 Z wm H2 [.own (rI .i64) (.slice (some ⟨b, o, none⟩) (s1.take i ++ s1.drop j).length cap) (s1.take i ++ s1.drop j)] Fr := by
   have hlen2 : (s1.take i ++ s1.drop j).length = i + (s1.length - j) := by simp; omega
   have hac : aCells H ((rI .i64)).sz (.slice (some ⟨b, o + j, none⟩) (s1.length - j) (cap - j)) = some ((s1.drop j).length, cs.drop j) := by
    simp only [aCells, g1, hsz1, Nat.mul_one, hcut2, Option.map_some]
    simp
   by_cases hz : s1.drop j = []
   ·have hjl : j = s1.length := by
     have := congrArg List.length hz; simp at this; omega
    subst hjl
    refine ⟨cells, gr, H, ?_, g1, rfl, ?_⟩
    ·have hac0 : aCells H 1 (.slice (some ⟨b, o + s1.length, none⟩) (s1.length - s1.length) (cap - s1.length)) = some (0, []) := by
      simp only [aCells, g1, Nat.sub_self, Nat.zero_mul]
      unfold cut
      rw [if_pos (by omega)]; simp
     have := append_none (P := Try.prog) (wm := wm) (a := some ⟨b, o, none⟩) (x := i) (y := cap) Fe22_22 hac0
     simpa using this
    ·have := hK.ownSet (k := 0) (o' := o) (cap' := cap) (gr := gr) (l' := s1.take i ++ s1.drop s1.length) (cells := cells) (cs' := cs.take i) rfl (by rw [hsz1]; omega) (by rw [hlen2]; omega) (by rw [hlen2, hsz1]; simpa using hcut1) (by simpa using hrow1)
     have hsame : (H.set b (.row true gr ((rI .i64)).sz cells)).n = H.n := rfl
     refine this.heq ?_ rfl
     intro x
     by_cases hx : x = b
     ·subst hx; rw [AHeap.get_set_same]; exact g1.symm
     ·rw [AHeap.get_set_ne _ _ hx]
   ·have hne := hz
    have hdl : (cs.drop j).length = s1.length - j := by simp; omega
    obtain ⟨cells2, hl2, hl3⟩ := lay_ok (cells := cells) (vs := cs.drop j) (o := o + i) (by rw [hdl]; omega)
    obtain ⟨c1, _⟩ := lay_cut2 hcut1 hl2
    refine ⟨cells2, gr, H.set b (.row true gr 1 cells2), ?_, AHeap.get_set_same _ _ _, hl3, ?_⟩
    ·have := append_in (P := Try.prog) (wm := wm) (st := 22) (xt := 22) Fe22_22 hac hne hwm (by rw [hsz1]; exact g1) (len := i) (cap := cap) (o := o) (by simp; omega) (by rw [hsz1, Nat.mul_one]; exact hl2)
     simpa [hsz1] using this
    ·have := hK.ownSet (k := 0) (o' := o) (cap' := cap) (gr := gr) (l' := s1.take i ++ s1.drop j) (cells := cells2) (cs' := cs.take i ++ cs.drop j) rfl (by rw [hsz1]; omega) (by rw [hlen2]; omega) (by rw [hlen2, hsz1, Nat.mul_one]; rw [hdl] at c1; exact c1) (hrow1.app hrow2)
     exact this
  obtain ⟨cells2, gr2, H2, hap, hg2, hcl2, hK2⟩ := ha
  have hlen2 : (s1.take i ++ s1.drop j).length = i + (s1.length - j) := by simp; omega
  refine o_appV hS (.inl rfl) rfl rfl rfl rfl Fu22 rfl hap ⟨Z, hK2⟩ fun tm hS => ?_
  refine o_pure hS (.inl rfl) rfl rfl fun tm hS => ?_
  refine o_nil (hR _ _ ?_)
  rw [← hlen2] at hS
  refine c_reg fun R hR => ?_
  refine o_pure hS (.inl rfl) rfl rfl fun tm hS => ?_
  refine o_pure hS (.inl rfl) rfl rfl fun tm hS => ?_
  refine o_len (k := 0) (r := (rI .i64)) hS (.inl rfl) rfl rfl rfl (.inr (.inl rfl)) Fu22 rfl fun tm hS => ?_
  refine o_pure hS (.inl rfl) rfl rfl fun tm hS => ?_
  refine o_sliceV hS (.inl rfl) rfl rfl (vlo := [.int .i64 ((s1.take i ++ s1.drop j).length : Int)]) (vhi := [.int .i64 (s1.length : Int)]) (vmx := []) rfl rfl rfl (aSlice_row Fu22 Fs3 hg2 (m := none) (h := some s1.length) (l := some (s1.take i ++ s1.drop j).length) rfl rfl (bnd_some (by simp; omega)) (bnd_some (by simp; omega))) fun tm hS => ?_
  simp only [Option.getD_none, Option.getD_some, Nat.mul_one] at hS ⊢
  obtain ⟨q, hq⟩ : ∃ q, s1.length - (s1.take i ++ s1.drop j).length = q + 1 := ⟨s1.length - (s1.take i ++ s1.drop j).length - 1, by rw [hlen2]; omega⟩
  obtain ⟨cells3, hl4, hl5⟩ := lay_ok (cells := cells2) (vs := (zeros (((Try.prog.info? 3).getD default).zero.getD undef) (q + 1)).toList) (o := o + (s1.take i ++ s1.drop j).length) (by
   have : (zeros (((Try.prog.info? 3).getD default).zero.getD undef) (q + 1)).toList.length = q + 1 := by simp [zeros]
   rw [this, hcl2]; omega)
  obtain ⟨_, _, _, gr3, cells4, cs4, k1, k2, k3, k4, k5⟩ := hK2.ownAt (k := 0) rfl
  rw [hg2] at k1
  obtain ⟨rfl, rfl⟩ : gr2 = gr3 ∧ cells2 = cells4 := by simpa [hsz1] using k1
  refine o_clrV (H' := H2.set b (.row true gr2 1 cells3)) (L' := [.own (rI .i64) (.slice (some ⟨b, o, none⟩) (s1.take i ++ s1.drop j).length cap) (s1.take i ++ s1.drop j)]) hS (.inl rfl) rfl rfl ?_ ⟨Z, ?_⟩ fun tm hS => ?_
  ·rw [hq]
   exact clear_in Fm22 hwm hg2 hl4
  ·have := hK2.ownSet (k := 0) (o' := o) (cap' := cap) (gr := gr2) (l' := s1.take i ++ s1.drop j) (cells := cells3) (cs' := cs4) rfl (by rw [hsz1] at k2 ⊢; omega) k3 (by
    rw [hsz1, Nat.mul_one] at k4 ⊢
    rw [lay_after hl4]; exact k4) k5
   exact this
  refine o_nil (hR _ _ ?_)
  refine c_reg fun R hR => ?_
  refine o_pure hS (.inl rfl) rfl rfl fun tm hS => ?_
  refine o_pure hS (.inl rfl) rfl rfl fun tm hS => ?_
  refine o_nil (hR _ _ ?_)
  refine wpC.ret ?_
  refine Exists.intro _ (And.intro (rs_tmp hS rfl rs_nil) ?_)
  exact ⟨_, rfl, hS.inv⟩
theorem wk34 {wm : Nat} {H : AHeap} {Fr : List Ent}  (s1 : (List Int)) (axis1 : Int)  (v1 : Value) (hI : Kn wm H [.fz (rI .i64) v1 s1] Fr) {r : (List Int)} (h0 : M.shape_Without s1 axis1 = some r) :
  wpF Try.prog ora wm 34 [v1, .int .i64 axis1] H (fun res H => ∃ v4, res = v4 ∧ Kn wm H [.own (rI .i64) v4 r] Fr) := by
 unfold M.shape_Without at h0
 refine f_enter (n := 22) Try.func34 rfl (by simp) hI rfl rfl rfl fun tm hS => ?_
 clear hI
 refine cr1 hS rfl rfl ?_; clear hS
 intro tm hS
 refine c_reg fun R hR => ?_
 refine pp1 hS rfl rfl ?_; clear hS
 intro tm hS
 obtain ⟨r1, hx1, h0⟩ := bindS h0
 refine o_call hS (.inl rfl) rfl (fun wm' hw1 hw2 => wk62  s1  v1 ((hS.sel hw2).ad 0 rfl) hx1) (fun wm' res H hw' hp => ?_)
 obtain ⟨v2, hres, hI⟩ := hp
 replace hres := hres.symm; subst hres
 replace hS : S wm 22 _ H ((7, v2) :: _) ([.own (rI .i64) v2 r1] ++ _) Fr := hS.after rfl hw' hI
 clear hI hw'
 refine pp1 hS rfl rfl ?_; clear hS
 intro tm hS
 refine o_nil (hR _ _ ?_)
 clear hR R
 refine c_seqS ?_
 refine c_reg fun R hR => ?_
 refine pp3 hS rfl rfl rfl rfl rfl rfl ?_; clear hS
 intro tm hS
 obtain ⟨c1, hc1⟩ : ∃ x : Bool, x = ((decide (axis1 < 0)) || (decide (axis1 ≥ (s1.length : Int)))) := ⟨_, rfl⟩
 refine o_cutN 5 (J := fun tm H => S wm 22 tm H [(15, .bool c1), (1, .int .i64 axis1), (5, v2)] [.own (rI .i64) v2 r1] Fr) ?_ ?_
 ·rcases Bool.eq_false_or_eq_true (decide (axis1 < 0)) with hg1 | hg1
  ·refine o_skip hS rfl rfl rfl hg1 ?_; clear hS
   intro tm hS
   refine o_skip hS rfl rfl rfl hg1 ?_; clear hS
   intro tm hS
   refine o_skip hS rfl rfl rfl hg1 ?_; clear hS
   intro tm hS
   refine o_skip hS rfl rfl rfl hg1 ?_; clear hS
   intro tm hS
   refine o_pickT hS (.inl rfl) rfl rfl hg1 rfl ?_; clear hS
   intro tm hS
   have hc1 : c1 = true := hc1.trans (by rw [hg1]; first | rfl | simp)
   subst hc1
   exact o_nil (hS.keep (k3 rfl rfl rfl) (fun hI => (hI.sub (sc sn))))
  ·refine o_pure hS (.inr ⟨_, _, _, _, rfl, rfl, rfl, hg1⟩) rfl rfl ?_; clear hS
   intro tm hS
   refine o_pure hS (.inr ⟨_, _, _, _, rfl, rfl, rfl, hg1⟩) rfl rfl ?_; clear hS
   intro tm hS
   refine o_len (k := 1) (r := (rI .i64)) hS (.inr ⟨_, _, _, _, rfl, rfl, rfl, hg1⟩) rfl rfl rfl (.inl rfl) Fu22 rfl ?_; clear hS
   intro tm hS
   refine o_pure hS (.inr ⟨_, _, _, _, rfl, rfl, rfl, hg1⟩) rfl rfl ?_; clear hS
   intro tm hS
   refine o_pickF hS (.inl rfl) rfl rfl hg1 rfl ?_; clear hS
   intro tm hS
   have hc1 : c1 = (decide (axis1 ≥ (s1.length : Int))) := hc1.trans (by rw [hg1]; first | rfl | simp)
   subst hc1
   exact o_nil (hS.keep (k3 rfl rfl rfl) (fun hI => (hI.sub (sc sn))))
 intro tm H hS
 subst hc1
 refine o_nil (hR _ _ ?_)
 clear hR R
 refine c_cond hS rfl (fun hc => ?_) (fun hc => ?_)
 ·replace h0 := iteT hc h0
  refine cr2 hS rfl rfl rfl rfl ?_; clear hS
  intro tm hS
  refine wpC.ret ?_
  obtain rfl := Option.some.inj h0
  refine Exists.intro _ (And.intro (rs_tmp hS rfl rs_nil) ?_)
  have hI := hS.inv
  exact ⟨v2, rfl, (hI.sub (sc sn))⟩
 ·replace h0 := iteF hc h0
  refine wpC.skip ?_
  refine c_reg fun R hR => ?_
  refine pp4 hS rfl rfl rfl rfl rfl rfl rfl rfl ?_; clear hS
  intro tm hS
  replace hS := hS.front 0 rfl
  obtain ⟨r2, hx2, h0⟩ := bindS h0
  refine o_callO hS (.inl rfl) rfl rfl (wk63  r1 axis1 (IntKind.i64.wrap (axis1 + 1))  v2 (hS.selN 1) hx2) (fun res H hp => ?_)
  obtain ⟨v3, hres, hI⟩ := hp
  replace hres := hres.symm; subst hres
  replace hS : S wm 22 _ H ((21, v3) :: _) ([.own (rI .i64) v3 r2] ++ _) Fr := hS.afterN rfl hI
  clear hI
  refine pp1 hS rfl rfl ?_; clear hS
  intro tm hS
  refine o_nil (hR _ _ ?_)
  clear hR R
  refine wpC.ret ?_
  obtain rfl := Option.some.inj h0
  refine Exists.intro _ (And.intro (rs_tmp hS rfl rs_nil) ?_)
  have hI := hS.inv
  exact ⟨v3, rfl, (hI.sub (sc sn))⟩
theorem wk38 {wm : Nat} {H : AHeap} {Fr : List Ent}  (v1 : Val) (n1 : Int) (behind1 : Int) (i1 : Int) (k1 : Int)  (v2 : Value) (v3 : Value) (hI : Kn wm H [.fz (rI .i64) v2 v1.Shape, .fz (rI .i64) v3 v1.Data] Fr) {r : (List Am.Item)} (h0 : M.over_row v1 n1 behind1 i1 k1 = some r) :
  wpF Try.prog ora wm 38 [.agg #[.bool v1.Char, v2, v3], .int .i64 n1, .int .i64 behind1, .int .i64 i1, .int .i64 k1] H (fun res H => ∃ v5, res = v5 ∧ Kn wm H [.own rItem v5 r] Fr) := by
 unfold M.over_row at h0
 refine f_enter (n := 36) Try.func38 rfl (by simp) hI rfl rfl rfl fun tm hS => ?_
 clear hI
 refine c_reg fun R hR => ?_
 refine o_box hS (.inl rfl) rfl rfl rfl (all_cons rfl (all_cons (hS.one (k := 0) rfl (.inl rfl)) (all_cons (hS.one (k := 1) rfl (.inl rfl)) all_nil))) ?_; clear hS
 intro b1 tm H hS
 refine pp1 hS rfl rfl ?_; clear hS
 intro tm hS
 refine o_nil (hR _ _ ?_)
 clear hR R
 refine c_reg fun R hR => ?_
 refine pp1 hS rfl rfl ?_; clear hS
 intro tm hS
 obtain ⟨l1, hx1, h0⟩ := bindS h0
 refine o_mkW (r := rItem) (z := (Am.Item.mk 0 false)) hS (.inl rfl) rfl rfl rfl Fm75 rfl (fun _ => rfl) hx1 ?_; clear hS
 intro v4 tm H hS
 refine pp1 hS rfl rfl ?_; clear hS
 intro tm hS
 refine o_nil (hR _ _ ?_)
 clear hR R
 refine c_seqS ?_
 refine c_reg fun R hR => ?_
 refine pp1 hS rfl rfl ?_; clear hS
 intro tm hS
 refine o_len (k := 0) (r := rItem) hS (.inl rfl) rfl rfl rfl (.inr (.inl rfl)) Fu75 rfl ?_; clear hS
 intro tm hS
 refine pp1 hS rfl rfl ?_; clear hS
 intro tm hS
 refine o_nil (hR _ _ ?_)
 clear hR R
 obtain ⟨k2, hw1, h0⟩ := bindS h0
 refine wpC.block ?_
 refine c_loop (I := fun (s : Int × (List Am.Item)) tm H => match (generalizing := false) s with | (t1, l2) => S wm 36 tm H [(1, .int .i64 n1), (2, .int .i64 behind1), (3, .int .i64 i1), (4, .int .i64 k1), (5, .pointer (some ⟨b1, 0, none⟩)), (11, v4), (16, .int .i64 (l1.length : Int)), (17, .int .i64 t1)] [.box b1 [.bool v1.Char, v2, v3], .fz (rI .i64) v2 v1.Shape, .fz (rI .i64) v3 v1.Data, .own rItem v4 l2] Fr) hw1 (by change S wm 36 _ _ _ _ Fr; exact hS.keep (k8 rfl rfl rfl rfl rfl rfl rfl rfl) (fun hI => (((((hI.pull 0 rfl).pull 3 rfl).pull 3 rfl).pull 3 rfl).take 4))) ?_
 clear hS
 intro s1 tm H c1 hS h1 hq1
 obtain ⟨t1, l2⟩ := s1
 change S wm 36 tm H [(1, .int .i64 n1), (2, .int .i64 behind1), (3, .int .i64 i1), (4, .int .i64 k1), (5, .pointer (some ⟨b1, 0, none⟩)), (11, v4), (16, .int .i64 (l1.length : Int)), (17, .int .i64 t1)] [.box b1 [.bool v1.Char, v2, v3], .fz (rI .i64) v2 v1.Shape, .fz (rI .i64) v3 v1.Data, .own rItem v4 l2] Fr at hS
 refine cr1 hS rfl rfl ?_; clear hS
 intro tm hS
 refine c_seqS ?_
 refine c_cond hS rfl (fun hc => ?_) (fun hc => ?_)
 ·replace h1 := iteT hc h1
  refine wpC.skip ?_
  refine c_seqS ?_
  refine wpC.block ?_
  refine cr2 hS rfl rfl rfl rfl ?_; clear hS
  intro tm hS
  refine c_reg1 fun R hR => ?_
  refine pp2 hS rfl rfl rfl rfl ?_; clear hS
  intro tm hS
  refine o_ldA (k := 0) hS (.inl rfl) rfl rfl rfl (.inl rfl) Fu25 rfl Fs25 rfl ?_; clear hS
  intro tm hS
  refine pp6 hS rfl rfl rfl rfl rfl rfl rfl rfl rfl rfl rfl rfl ?_; clear hS
  intro tm hS
  refine pp3 hS rfl rfl rfl rfl rfl rfl ?_; clear hS
  intro tm hS
  obtain ⟨r1, hx2, h1⟩ := bindS h1
  refine o_call hS (.inl rfl) rfl (fun wm' hw1 hw2 => wk40  v1 (IntKind.i64.wrap ((IntKind.i64.wrap ((IntKind.i64.wrap ((IntKind.i64.wrap (i1 * n1)) + t1)) * behind1)) + k1))  v2 v3 (((hS.sel hw2).ad 2 rfl).ad 1 rfl) hx2) (fun wm' res H hw' hp => ?_)
  obtain ⟨hres, hI⟩ := hp
  replace hres := hres.symm; subst hres
  replace hS : S wm 36 _ H ((32, .agg #[.int .i64 r1.n, .bool r1.char]) :: _) ([] ++ _) Fr := hS.after rfl hw' hI
  clear hI hw'
  obtain ⟨y1, hx3, h1⟩ := bindS h1
  refine o_ixA (k := 3) (r := rItem) hS (.inl rfl) rfl rfl rfl rfl (.inr (.inl rfl)) Fu75 Fs72 hx3 ?_; clear hS
  intro tm hS
  obtain ⟨l3, hx4, h1⟩ := bindS h1
  refine o_stE (k := 3) (r := rItem) hS (.inl rfl) rfl rfl rfl Fs72 rfl rfl (rd_flat fun _ => rfl) hx4 ?_; clear hS; try clear H
  intro H hS
  refine o_nil (hR _ _ ?_)
  clear hR R
  refine cs2 hS rfl rfl rfl rfl ?_; clear hS
  intro tm hS
  obtain rfl := Option.some.inj h1
  refine ⟨_, rfl, ?_⟩
  change S wm 36 _ _ _ _ Fr; exact hS.keep (k8 rfl rfl rfl rfl rfl rfl rfl rfl) (fun hI => (hI.sub (sc (sc (sc (sc sn))))))
 ·replace h1 := iteF hc h1
  refine wpC.exit ?_
  refine seqX ?_
  obtain rfl := Option.some.inj h1
  obtain rfl := hq1 _ rfl
  refine And.intro rfl (blk_eq ?_)
  replace h0 := joinN h0
  refine cr2 hS rfl rfl rfl rfl ?_; clear hS
  intro tm hS
  refine wpC.ret ?_
  obtain rfl := Option.some.inj h0
  refine Exists.intro _ (And.intro (rs_tmp hS rfl rs_nil) ?_)
  have hI := hS.inv
  exact ⟨v4, rfl, (hI.sub (sd (sd (sd (sc sn)))))⟩
theorem wk11 {wm : Nat} {H : AHeap} {Fr : List Ent} (ho100 : ora 100 = false) (fn1 : ByteArray) (v1 : Val) (axis1 : Int)  (v2 : Value) (v3 : Value) (hI : Kn wm H [.fz (rI .i64) v2 v1.Shape, .fz (rI .i64) v3 v1.Data] Fr) {r : Val × Int} (h0 : M.over_Reduce fn1 v1 axis1 = some r) :
  wpF Try.prog ora wm 11 [.string fn1, .agg #[.bool v1.Char, v2, v3], .int .i64 axis1] H (fun res H => ∃ v15 v16, res = .tuple #[.agg #[.bool r.1.Char, v15, v16], .int .i64 r.2] ∧ Kn wm H [.own (rI .i64) v15 r.1.Shape, .own (rI .i64) v16 r.1.Data] Fr) := by
 unfold M.over_Reduce at h0
 refine f_enter (n := 117) Try.func11 rfl (by simp) hI rfl rfl rfl fun tm hS => ?_
 clear hI
 refine c_reg fun R hR => ?_
 refine o_box hS (.inl rfl) rfl rfl rfl (all_cons rfl (all_cons (hS.one (k := 0) rfl (.inl rfl)) (all_cons (hS.one (k := 1) rfl (.inl rfl)) all_nil))) ?_; clear hS
 intro b1 tm H hS
 refine o_alloc hS (.inl rfl) rfl Fz25 (by decide) ?_; clear hS
 intro b2 tm H hS
 refine pp1 hS rfl rfl ?_; clear hS
 intro tm hS
 refine o_nil (hR _ _ ?_)
 clear hR R
 refine c_reg fun R hR => ?_
 refine pp1 hS rfl rfl ?_; clear hS
 intro tm hS
 refine o_ldA (k := 1) hS (.inl rfl) rfl rfl rfl (.inl rfl) Fu25 rfl Fs25 rfl ?_; clear hS
 intro tm hS
 refine o_lit (r := rVal) (l := [v1]) hS (.inl rfl) rfl Fl103 rfl rfl rfl (.cons rfl .nil) rfl rfl (ri_3 (rd_Val ⟨2, rfl⟩ ⟨3, rfl⟩) ri_nil) rfl ?_; clear hS
 intro v4 tm H hS
 replace hS := hS.litFrz (k := 0) rfl
 obtain ⟨⟨r1, r2⟩, hx1, h0⟩ := bindS h0
 refine o_call hS (.inl rfl) rfl (fun wm' hw1 hw2 => wk31  fn1 ([v1])  v4 ((hS.sel hw2).ad 0 rfl) hx1) (fun wm' res H hw' hp => ?_)
 obtain ⟨v5, hres, hI⟩ := hp
 replace hres := hres.symm; subst hres
 replace hS : S wm 117 _ H ((26, .tuple #[v5, .int .i64 r2]) :: _) ([.el (rClo 87) [v5] r1] ++ _) Fr := hS.after rfl hw' hI
 clear hI hw'
 refine pp5 hS rfl rfl rfl rfl rfl rfl rfl rfl rfl rfl ?_; clear hS
 intro tm hS
 refine o_nil (hR _ _ ?_)
 clear hR R
 refine c_seqS ?_
 refine cr2 hS rfl rfl rfl rfl ?_; clear hS
 intro tm hS
 refine c_cond hS rfl (fun hc => ?_) (fun hc => ?_)
 ·replace h0 := iteT hc h0
  refine c_reg fun R hR => ?_
  refine o_build hS (.inl rfl) rfl Fb25 rfl .nil rfl ?_; clear hS
  intro tm hS
  refine pp1 hS rfl rfl ?_; clear hS
  intro tm hS
  refine o_st (k := 2) hS (.inl rfl) rfl rfl rfl Fs25 rfl rfl (all_cons rfl (all_cons rfl (all_cons rfl all_nil))) rfl ?_; clear hS; try clear H
  intro H hS
  refine pp1 hS rfl rfl ?_; clear hS
  intro tm hS
  refine o_nil (hR _ _ ?_)
  clear hR R
  refine wpC.ret ?_
  obtain rfl := Option.some.inj h0
  replace hS := hS.nilOwn (rI .i64)
  replace hS := hS.nilOwn (rI .i64)
  refine Exists.intro _ (And.intro (rs_cellA (k := 4) hS rfl rfl (.inl rfl) Fu25 rfl Fs25 rfl (rs_tmp hS rfl rs_nil)) ?_)
  have hI := hS.inv
  exact ⟨(.slice none 0 0), (.slice none 0 0), rfl, (((hI.pull 0 rfl).pull 1 rfl).take 2)⟩
 ·replace h0 := iteF hc h0
  refine wpC.skip ?_
  refine c_seqS ?_
  refine c_reg fun R hR => ?_
  refine pp1 hS rfl rfl ?_; clear hS
  intro tm hS
  refine o_ld1 (k := 3) hS (.inl rfl) rfl rfl rfl (.inl rfl) Fu22 rfl rfl ?_; clear hS
  intro tm hS
  refine o_len (k := 4) (r := (rI .i64)) hS (.inl rfl) rfl rfl rfl (.inl rfl) Fu22 rfl ?_; clear hS
  intro tm hS
  refine pp1 hS rfl rfl ?_; clear hS
  intro tm hS
  refine o_nil (hR _ _ ?_)
  clear hR R
  refine c_cond hS rfl (fun hc => ?_) (fun hc => ?_)
  ·replace h0 := iteT hc h0
   refine c_reg fun R hR => ?_
   refine o_ldA (k := 3) hS (.inl rfl) rfl rfl rfl (.inl rfl) Fu25 rfl Fs25 rfl ?_; clear hS
   intro tm hS
   obtain ⟨r3, hx2, h0⟩ := bindS h0
   refine o_call hS (.inl rfl) rfl (fun wm' hw1 hw2 => wk32  v1  v2 v3 (((hS.sel hw2).ad 5 rfl).ad 4 rfl) hx2) (fun wm' res H hw' hp => ?_)
   obtain ⟨v6, v7, hres, hI⟩ := hp
   replace hres := hres.symm; subst hres
   replace hS : S wm 117 _ H ((38, .agg #[.bool r3.Char, v6, v7]) :: _) ([.own (rI .i64) v6 r3.Shape, .own (rI .i64) v7 r3.Data] ++ _) Fr := hS.after rfl hw' hI
   clear hI hw'
   refine o_st (k := 4) hS (.inl rfl) rfl rfl rfl Fs25 rfl rfl (all_cons rfl (all_cons (hS.one (k := 0) rfl (.inr (.inl rfl))) (all_cons (hS.one (k := 1) rfl (.inr (.inl rfl))) all_nil))) rfl ?_; clear hS; try clear H
   intro H hS
   refine pp1 hS rfl rfl ?_; clear hS
   intro tm hS
   refine o_nil (hR _ _ ?_)
   clear hR R
   refine wpC.ret ?_
   obtain rfl := Option.some.inj h0
   refine Exists.intro _ (And.intro (rs_cellA (k := 4) hS rfl rfl (.inl rfl) Fu25 rfl Fs25 rfl (rs_tmp hS rfl rs_nil)) ?_)
   have hI := hS.inv
   exact ⟨v6, v7, rfl, (hI.sub (sc (sc sn)))⟩
  ·replace h0 := iteF hc h0
   refine wpC.skip ?_
   refine c_reg fun R hR => ?_
   refine o_ldA (k := 3) hS (.inl rfl) rfl rfl rfl (.inl rfl) Fu25 rfl Fs25 rfl ?_; clear hS
   intro tm hS
   refine pp1 hS rfl rfl ?_; clear hS
   intro tm hS
   obtain ⟨⟨r4, r5⟩, hx3, h0⟩ := bindS h0
   refine o_call hS (.inl rfl) rfl (fun wm' hw1 hw2 => wk33  v1 axis1  v2 v3 (((hS.sel hw2).ad 5 rfl).ad 4 rfl) hx3) (fun wm' res H hw' hp => ?_)
   obtain ⟨hres, hI⟩ := hp
   replace hres := hres.symm; subst hres
   replace hS : S wm 117 _ H ((42, .tuple #[.int .i64 r4, .bool r5]) :: _) ([] ++ _) Fr := hS.after rfl hw' hI
   clear hI hw'
   refine pp5 hS rfl rfl rfl rfl rfl rfl rfl rfl rfl rfl ?_; clear hS
   intro tm hS
   refine o_nil (hR _ _ ?_)
   clear hR R
   refine c_seqS ?_
   refine cr2 hS rfl rfl rfl rfl ?_; clear hS
   intro tm hS
   refine c_cond hS rfl (fun hc => ?_) (fun hc => ?_)
   ·replace h0 := iteT hc h0
    refine c_reg fun R hR => ?_
    refine o_build hS (.inl rfl) rfl Fb25 rfl .nil rfl ?_; clear hS
    intro tm hS
    refine o_st (k := 2) hS (.inl rfl) rfl rfl rfl Fs25 rfl rfl (all_cons rfl (all_cons rfl (all_cons rfl all_nil))) rfl ?_; clear hS; try clear H
    intro H hS
    refine pp1 hS rfl rfl ?_; clear hS
    intro tm hS
    refine o_nil (hR _ _ ?_)
    clear hR R
    refine wpC.ret ?_
    obtain rfl := Option.some.inj h0
    replace hS := hS.nilOwn (rI .i64)
    replace hS := hS.nilOwn (rI .i64)
    refine Exists.intro _ (And.intro (rs_cellA (k := 4) hS rfl rfl (.inl rfl) Fu25 rfl Fs25 rfl (rs_tmp hS rfl rs_nil)) ?_)
    have hI := hS.inv
    exact ⟨(.slice none 0 0), (.slice none 0 0), rfl, (((hI.pull 0 rfl).pull 1 rfl).take 2)⟩
   ·replace h0 := iteF hc h0
    refine wpC.skip ?_
    refine c_reg fun R hR => ?_
    refine pp1 hS rfl rfl ?_; clear hS
    intro tm hS
    refine o_ld1 (k := 3) hS (.inl rfl) rfl rfl rfl (.inl rfl) Fu22 rfl rfl ?_; clear hS
    intro tm hS
    refine pp1 hS rfl rfl ?_; clear hS
    intro tm hS
    obtain ⟨r6, hx4, h0⟩ := bindS h0
    refine o_call hS (.inl rfl) rfl (fun wm' hw1 hw2 => wk34  v1.Shape r4  v2 ((hS.sel hw2).ad 4 rfl) hx4) (fun wm' res H hw' hp => ?_)
    obtain ⟨v8, hres, hI⟩ := hp
    replace hres := hres.symm; subst hres
    replace hS : S wm 117 _ H ((51, v8) :: _) ([.own (rI .i64) v8 r6] ++ _) Fr := hS.after rfl hw' hI
    clear hI hw'
    refine pp1 hS rfl rfl ?_; clear hS
    intro tm hS
    refine o_nil (hR _ _ ?_)
    clear hR R
    refine c_reg fun R hR => ?_
    refine pp1 hS rfl rfl ?_; clear hS
    intro tm hS
    obtain ⟨⟨r7, r8⟩, hx5, h0⟩ := bindS h0
    refine o_call (Pc := fun _ res H => res = .tuple #[.int .i64 r7, .int .i64 r8] ∧ Kn wm H ([.own (rI .i64) v8 r6, .el (rClo 87) [v5] r1, .fz rVal v4 ([v1]), .box b2 [.bool false, (.slice none 0 0), (.slice none 0 0)], .box b1 [.bool v1.Char, v2, v3], .fz (rI .i64) v2 v1.Shape, .fz (rI .i64) v3 v1.Data]) Fr) hS (.inl rfl) rfl (fun wm' hw1 hw2 => by
     obtain ⟨F2, kk_1, kk_2⟩ := hS.inv.lend (La := [.fz (rI .i64) v8 r6]) (List.forall_mem_cons.mpr ⟨(.inr ⟨_, _, _, _, rfl, .inl (List.mem_of_getElem? (i := 0) rfl)⟩), (fun _ h => by cases h)⟩) hw1 hw2
     exact (wk35  r6  v8 kk_1 hx5).mono fun res H2 ⟨qq_1, qq_2⟩ => ⟨qq_1, kk_2 _ qq_2⟩) (fun wm' res H hw' hp => ?_)
    obtain ⟨hres, hI⟩ := hp
    replace hres := hres.symm; subst hres
    replace hS : S wm 117 _ H ((54, .tuple #[.int .i64 r7, .int .i64 r8]) :: _) ([.own (rI .i64) v8 r6, .el (rClo 87) [v5] r1, .fz rVal v4 ([v1]), .box b2 [.bool false, (.slice none 0 0), (.slice none 0 0)], .box b1 [.bool v1.Char, v2, v3], .fz (rI .i64) v2 v1.Shape, .fz (rI .i64) v3 v1.Data]) Fr := (hS.put rfl _).withK hI
    clear hI hw'
    refine pp5 hS rfl rfl rfl rfl rfl rfl rfl rfl rfl rfl ?_; clear hS
    intro tm hS
    refine o_nil (hR _ _ ?_)
    clear hR R
    refine c_seqS ?_
    refine cr2 hS rfl rfl rfl rfl ?_; clear hS
    intro tm hS
    refine c_cond hS rfl (fun hc => ?_) (fun hc => ?_)
    ·replace h0 := iteT hc h0
     refine c_reg fun R hR => ?_
     refine o_build hS (.inl rfl) rfl Fb25 rfl .nil rfl ?_; clear hS
     intro tm hS
     refine o_st (k := 3) hS (.inl rfl) rfl rfl rfl Fs25 rfl rfl (all_cons rfl (all_cons rfl (all_cons rfl all_nil))) rfl ?_; clear hS; try clear H
     intro H hS
     refine pp1 hS rfl rfl ?_; clear hS
     intro tm hS
     refine o_nil (hR _ _ ?_)
     clear hR R
     refine wpC.ret ?_
     obtain rfl := Option.some.inj h0
     replace hS := hS.nilOwn (rI .i64)
     replace hS := hS.nilOwn (rI .i64)
     refine Exists.intro _ (And.intro (rs_cellA (k := 5) hS rfl rfl (.inl rfl) Fu25 rfl Fs25 rfl (rs_tmp hS rfl rs_nil)) ?_)
     have hI := hS.inv
     exact ⟨(.slice none 0 0), (.slice none 0 0), rfl, (((hI.pull 0 rfl).pull 1 rfl).take 2)⟩
    ·replace h0 := iteF hc h0
     refine wpC.skip ?_
     refine c_reg fun R hR => ?_
     refine pp1 hS rfl rfl ?_; clear hS
     intro tm hS
     refine o_ld1 (k := 4) hS (.inl rfl) rfl rfl rfl (.inl rfl) Fu22 rfl rfl ?_; clear hS
     intro tm hS
     refine pp1 hS rfl rfl ?_; clear hS
     intro tm hS
     obtain ⟨⟨r9, r10, r11, r12⟩, hx6, h0⟩ := bindS h0
     refine o_call hS (.inl rfl) rfl (fun wm' hw1 hw2 => wk36  v1.Shape r4  v2 ((hS.sel hw2).ad 5 rfl) hx6) (fun wm' res H hw' hp => ?_)
     obtain ⟨hres, hI⟩ := hp
     replace hres := hres.symm; subst hres
     replace hS : S wm 117 _ H ((64, .tuple #[.int .i64 r9, .int .i64 r10, .int .i64 r11, .bool r12]) :: _) ([] ++ _) Fr := hS.after rfl hw' hI
     clear hI hw'
     refine pp6 hS rfl rfl rfl rfl rfl rfl rfl rfl rfl rfl rfl rfl ?_; clear hS
     intro tm hS
     refine pp3 hS rfl rfl rfl rfl rfl rfl ?_; clear hS
     intro tm hS
     refine o_nil (hR _ _ ?_)
     clear hR R
     refine c_reg fun R hR => ?_
     refine pp1 hS rfl rfl ?_; clear hS
     intro tm hS
     refine o_ld1 (k := 4) hS (.inl rfl) rfl rfl rfl (.inl rfl) Fu4 rfl rfl ?_; clear hS
     intro tm hS
     refine pp1 hS rfl rfl ?_; clear hS
     intro tm hS
     obtain ⟨c1, hc1⟩ : ∃ x : Bool, x = (v1.Char && (r10 == 1)) := ⟨_, rfl⟩
     refine o_cutN 3 (J := fun tm H => S wm 117 tm H [(74, .bool c1), (0, .string fn1), (4, .pointer (some ⟨b1, 0, none⟩)), (6, .pointer (some ⟨b2, 0, none⟩)), (8, v5), (11, v8), (12, .int .i64 r7), (13, .int .i64 r9), (14, .int .i64 r10), (15, .int .i64 r11)] [.own (rI .i64) v8 r6, .el (rClo 87) [v5] r1, .box b2 [.bool false, (.slice none 0 0), (.slice none 0 0)], .box b1 [.bool v1.Char, v2, v3], .fz (rI .i64) v2 v1.Shape, .fz (rI .i64) v3 v1.Data] Fr) ?_ ?_
     ·rcases Bool.eq_false_or_eq_true v1.Char with hg1 | hg1
      ·refine o_pure hS (.inr ⟨_, _, _, _, rfl, rfl, rfl, hg1⟩) rfl rfl ?_; clear hS
       intro tm hS
       refine o_pure hS (.inr ⟨_, _, _, _, rfl, rfl, rfl, hg1⟩) rfl rfl ?_; clear hS
       intro tm hS
       refine o_pickT hS (.inl rfl) rfl rfl hg1 rfl ?_; clear hS
       intro tm hS
       have hc1 : c1 = (r10 == 1) := hc1.trans (by rw [hg1]; first | rfl | simp)
       subst hc1
       exact o_nil (hS.keep (k10 rfl rfl rfl rfl rfl rfl rfl rfl rfl rfl) (fun hI => (hI.sub (sc (sc (sd (sc (sc (sc (sc sn))))))))))
      ·refine o_skip hS rfl rfl rfl hg1 ?_; clear hS
       intro tm hS
       refine o_skip hS rfl rfl rfl hg1 ?_; clear hS
       intro tm hS
       refine o_pickF hS (.inl rfl) rfl rfl hg1 rfl ?_; clear hS
       intro tm hS
       have hc1 : c1 = false := hc1.trans (by rw [hg1]; first | rfl | simp)
       subst hc1
       exact o_nil (hS.keep (k10 rfl rfl rfl rfl rfl rfl rfl rfl rfl rfl) (fun hI => (hI.sub (sc (sc (sd (sc (sc (sc (sc sn))))))))))
     intro tm H hS
     subst hc1
     refine pp2 hS rfl rfl rfl rfl ?_; clear hS
     intro tm hS
     obtain ⟨l1, hx7, h0⟩ := bindS h0
     refine o_mk (r := (rI .i64)) hS (.inl rfl) rfl rfl rfl Fm23 rfl (fun _ => rfl) hx7 ?_; clear hS
     intro v9 tm H hS
     refine o_build hS (.inl rfl) rfl Fb25 rfl (.cons rfl (.cons (cells_one (hS.one (k := 1) rfl (.inr (.inl rfl)))) (.cons (cells_one (hS.one (k := 0) rfl (.inr (.inl rfl)))) .nil))) rfl ?_; clear hS
     intro tm hS
     refine o_alloc hS (.inl rfl) rfl Fz25 (by decide) ?_; clear hS
     intro b3 tm H hS
     refine o_st (k := 0) hS (.inl rfl) rfl rfl rfl Fs25 rfl rfl (all_cons rfl (all_cons (hS.one (k := 2) rfl (.inr (.inl rfl))) (all_cons (hS.one (k := 1) rfl (.inr (.inl rfl))) all_nil))) rfl ?_; clear hS; try clear H
     intro H hS
     refine o_nil (hR _ _ ?_)
     clear hR R
     refine c_seqS ?_
     refine cr1 hS rfl rfl ?_; clear hS
     intro tm hS
     obtain ⟨k1, hw1, h0⟩ := bindS h0
     refine wpC.block ?_
     refine c_loop (I := fun (s : Int × (List Int)) tm H => match (generalizing := false) s with | (i1, Data1) => ∃ v10, S wm 117 tm H [(0, .string fn1), (4, .pointer (some ⟨b1, 0, none⟩)), (6, .pointer (some ⟨b2, 0, none⟩)), (8, v5), (12, .int .i64 r7), (13, .int .i64 r9), (14, .int .i64 r10), (15, .int .i64 r11), (17, .pointer (some ⟨b3, 0, none⟩)), (18, .int .i64 i1)] [.box b1 [.bool v1.Char, v2, v3], .box b2 [.bool false, (.slice none 0 0), (.slice none 0 0)], .box b3 [.bool (v1.Char && (r10 == 1)), v8, v10], .own (rI .i64) v10 Data1, .fz (rI .i64) v2 v1.Shape, .fz (rI .i64) v3 v1.Data, .el (rClo 87) [v5] r1, .own (rI .i64) v8 r6] Fr) hw1 (by refine Exists.intro v9 ?_; change S wm 117 _ _ _ _ Fr; exact hS.keep (k10 rfl rfl rfl rfl rfl rfl rfl rfl rfl rfl) (fun hI => (hI.pick [5, 4, 0, 1, 6, 7, 3, 2] rfl))) ?_
     clear hS
     intro s1 tm H c2 hS h3 hq3
     obtain ⟨i1, Data1⟩ := s1
     obtain ⟨v10, hS⟩ := hS
     change S wm 117 tm H [(0, .string fn1), (4, .pointer (some ⟨b1, 0, none⟩)), (6, .pointer (some ⟨b2, 0, none⟩)), (8, v5), (12, .int .i64 r7), (13, .int .i64 r9), (14, .int .i64 r10), (15, .int .i64 r11), (17, .pointer (some ⟨b3, 0, none⟩)), (18, .int .i64 i1)] [.box b1 [.bool v1.Char, v2, v3], .box b2 [.bool false, (.slice none 0 0), (.slice none 0 0)], .box b3 [.bool (v1.Char && (r10 == 1)), v8, v10], .own (rI .i64) v10 Data1, .fz (rI .i64) v2 v1.Shape, .fz (rI .i64) v3 v1.Data, .el (rClo 87) [v5] r1, .own (rI .i64) v8 r6] Fr at hS
     refine c_seqS ?_
     refine c_reg fun R hR => ?_
     refine pp4 hS rfl rfl rfl rfl rfl rfl rfl rfl ?_; clear hS
     intro tm hS
     obtain ⟨c3, hc2⟩ : ∃ x : Bool, x = ((decide (i1 < r9)) && (decide (r7 > 0))) := ⟨_, rfl⟩
     refine o_cutN 3 (J := fun tm H => S wm 117 tm H [(85, .bool c3), (0, .string fn1), (4, .pointer (some ⟨b1, 0, none⟩)), (6, .pointer (some ⟨b2, 0, none⟩)), (8, v5), (12, .int .i64 r7), (13, .int .i64 r9), (14, .int .i64 r10), (15, .int .i64 r11), (17, .pointer (some ⟨b3, 0, none⟩)), (18, .int .i64 i1)] [.box b1 [.bool v1.Char, v2, v3], .box b2 [.bool false, (.slice none 0 0), (.slice none 0 0)], .box b3 [.bool (v1.Char && (r10 == 1)), v8, v10], .own (rI .i64) v10 Data1, .fz (rI .i64) v2 v1.Shape, .fz (rI .i64) v3 v1.Data, .el (rClo 87) [v5] r1, .own (rI .i64) v8 r6] Fr) ?_ ?_
     ·rcases Bool.eq_false_or_eq_true (decide (i1 < r9)) with hg2 | hg2
      ·refine o_pure hS (.inr ⟨_, _, _, _, rfl, rfl, rfl, hg2⟩) rfl rfl ?_; clear hS
       intro tm hS
       refine o_pure hS (.inr ⟨_, _, _, _, rfl, rfl, rfl, hg2⟩) rfl rfl ?_; clear hS
       intro tm hS
       refine o_pickT hS (.inl rfl) rfl rfl hg2 rfl ?_; clear hS
       intro tm hS
       have hc2 : c3 = (decide (r7 > 0)) := hc2.trans (by rw [hg2]; first | rfl | simp)
       subst hc2
       exact o_nil (hS.keep (k11 rfl rfl rfl rfl rfl rfl rfl rfl rfl rfl rfl) (fun hI => (hI.sub (sc (sc (sc (sc (sc (sc (sc (sc sn)))))))))))
      ·refine o_skip hS rfl rfl rfl hg2 ?_; clear hS
       intro tm hS
       refine o_skip hS rfl rfl rfl hg2 ?_; clear hS
       intro tm hS
       refine o_pickF hS (.inl rfl) rfl rfl hg2 rfl ?_; clear hS
       intro tm hS
       have hc2 : c3 = false := hc2.trans (by rw [hg2]; first | rfl | simp)
       subst hc2
       exact o_nil (hS.keep (k11 rfl rfl rfl rfl rfl rfl rfl rfl rfl rfl rfl) (fun hI => (hI.sub (sc (sc (sc (sc (sc (sc (sc (sc sn)))))))))))
     intro tm H hS
     subst hc2
     refine o_nil (hR _ _ ?_)
     clear hR R
     refine c_cond hS rfl (fun hc => ?_) (fun hc => ?_)
     ·replace h3 := iteT hc h3
      refine wpC.skip ?_
      refine c_seqS ?_
      refine wpC.block ?_
      refine cr2 hS rfl rfl rfl rfl ?_; clear hS
      intro tm hS
      obtain ⟨k2, hw2, h3⟩ := bindS h3
      refine wpC.block ?_
      refine c_loop (I := fun (s : Int × (List Int)) tm H => match (generalizing := false) s with | (t1, Data2) => ∃ v11, S wm 117 tm H [(0, .string fn1), (4, .pointer (some ⟨b1, 0, none⟩)), (6, .pointer (some ⟨b2, 0, none⟩)), (8, v5), (12, .int .i64 r7), (13, .int .i64 r9), (14, .int .i64 r10), (15, .int .i64 r11), (17, .pointer (some ⟨b3, 0, none⟩)), (18, .int .i64 i1), (88, .int .i64 r11), (89, .int .i64 t1)] [.box b1 [.bool v1.Char, v2, v3], .box b2 [.bool false, (.slice none 0 0), (.slice none 0 0)], .box b3 [.bool (v1.Char && (r10 == 1)), v8, v11], .own (rI .i64) v11 Data2, .fz (rI .i64) v2 v1.Shape, .fz (rI .i64) v3 v1.Data, .el (rClo 87) [v5] r1, .own (rI .i64) v8 r6] Fr) hw2 (by refine Exists.intro v10 ?_; change S wm 117 _ _ _ _ Fr; exact hS.keep (k12 rfl rfl rfl rfl rfl rfl rfl rfl rfl rfl rfl rfl) (fun hI => (hI.sub (sc (sc (sc (sc (sc (sc (sc (sc sn))))))))))) ?_
      clear hS
      intro s2 tm H c4 hS h5 hq5
      obtain ⟨t1, Data2⟩ := s2
      obtain ⟨v11, hS⟩ := hS
      change S wm 117 tm H [(0, .string fn1), (4, .pointer (some ⟨b1, 0, none⟩)), (6, .pointer (some ⟨b2, 0, none⟩)), (8, v5), (12, .int .i64 r7), (13, .int .i64 r9), (14, .int .i64 r10), (15, .int .i64 r11), (17, .pointer (some ⟨b3, 0, none⟩)), (18, .int .i64 i1), (88, .int .i64 r11), (89, .int .i64 t1)] [.box b1 [.bool v1.Char, v2, v3], .box b2 [.bool false, (.slice none 0 0), (.slice none 0 0)], .box b3 [.bool (v1.Char && (r10 == 1)), v8, v11], .own (rI .i64) v11 Data2, .fz (rI .i64) v2 v1.Shape, .fz (rI .i64) v3 v1.Data, .el (rClo 87) [v5] r1, .own (rI .i64) v8 r6] Fr at hS
      refine cr1 hS rfl rfl ?_; clear hS
      intro tm hS
      refine c_seqS ?_
      refine c_cond hS rfl (fun hc => ?_) (fun hc => ?_)
      ·replace h5 := iteT hc h5
       refine wpC.skip ?_
       refine c_seqS ?_
       refine wpC.block ?_
       refine cr2 hS rfl rfl rfl rfl ?_; clear hS
       intro tm hS
       refine c_reg fun R hR => ?_
       refine pp2 hS rfl rfl rfl rfl ?_; clear hS
       intro tm hS
       refine o_ldA (k := 0) hS (.inl rfl) rfl rfl rfl (.inl rfl) Fu25 rfl Fs25 rfl ?_; clear hS
       intro tm hS
       refine pp4 hS rfl rfl rfl rfl rfl rfl rfl rfl ?_; clear hS
       intro tm hS
       obtain ⟨r13, hx8, h5⟩ := bindS h5
       refine o_call hS (.inl rfl) rfl (fun wm' hw1 hw2 => wk38  v1 r10 r11 i1 t1  v2 v3 (((hS.sel hw2).ad 5 rfl).ad 4 rfl) hx8) (fun wm' res H hw' hp => ?_)
       obtain ⟨v12, hres, hI⟩ := hp
       replace hres := hres.symm; subst hres
       replace hS : S wm 117 _ H ((100, v12) :: _) ([.own rItem v12 r13] ++ _) Fr := hS.after rfl hw' hI
       clear hI hw'
       obtain ⟨⟨r14, r15⟩, hx9, h5⟩ := bindS h5
       refine o_call (Pc := fun _ res H => res = .tuple #[.agg #[.int .i64 r14.n, .bool r14.char], .int .i64 r15] ∧ Kn wm H ([.own rItem v12 r13, .box b1 [.bool v1.Char, v2, v3], .box b2 [.bool false, (.slice none 0 0), (.slice none 0 0)], .box b3 [.bool (v1.Char && (r10 == 1)), v8, v11], .own (rI .i64) v11 Data2, .fz (rI .i64) v2 v1.Shape, .fz (rI .i64) v3 v1.Data, .el (rClo 87) [v5] r1, .own (rI .i64) v8 r6]) Fr) hS (.inl rfl) rfl (fun wm' hw1 hw2 => by
        obtain ⟨F2, kk_1, kk_2⟩ := hS.inv.lend (La := [.el (rClo 87) [v5] r1, .fz rItem v12 r13]) (List.forall_mem_cons.mpr ⟨(.inl ⟨rfl, List.mem_of_getElem? (i := 7) rfl⟩), (List.forall_mem_cons.mpr ⟨(.inr ⟨_, _, _, _, rfl, .inl (List.mem_of_getElem? (i := 0) rfl)⟩), (fun _ h => by cases h)⟩)⟩) hw1 hw2
        exact (wk37 ho100 fn1 r1 r13  v5 v12 kk_1 hx9).mono fun res H2 ⟨qq_1, qq_2⟩ => ⟨qq_1, kk_2 _ qq_2⟩) (fun wm' res H hw' hp => ?_)
       obtain ⟨hres, hI⟩ := hp
       replace hres := hres.symm; subst hres
       replace hS : S wm 117 _ H ((101, .tuple #[.agg #[.int .i64 r14.n, .bool r14.char], .int .i64 r15]) :: _) ([.own rItem v12 r13, .box b1 [.bool v1.Char, v2, v3], .box b2 [.bool false, (.slice none 0 0), (.slice none 0 0)], .box b3 [.bool (v1.Char && (r10 == 1)), v8, v11], .own (rI .i64) v11 Data2, .fz (rI .i64) v2 v1.Shape, .fz (rI .i64) v3 v1.Data, .el (rClo 87) [v5] r1, .own (rI .i64) v8 r6]) Fr := (hS.put rfl _).withK hI
       clear hI hw'
       refine pp3 hS rfl rfl rfl rfl rfl rfl ?_; clear hS
       intro tm hS
       refine o_alloc hS (.inl rfl) rfl Fz72 (by decide) ?_; clear hS
       intro b4 tm H hS
       refine o_st (k := 0) hS (.inl rfl) rfl rfl rfl Fs72 rfl rfl (all_cons rfl (all_cons rfl all_nil)) rfl ?_; clear hS; try clear H
       intro H hS
       refine pp1 hS rfl rfl ?_; clear hS
       intro tm hS
       refine o_nil (hR _ _ ?_)
       clear hR R
       refine c_seqS ?_
       refine cr2 hS rfl rfl rfl rfl ?_; clear hS
       intro tm hS
       refine c_cond hS rfl (fun hc => ?_) (fun hc => ?_)
       ·replace h5 := iteT hc h5
        refine c_reg fun R hR => ?_
        refine o_build hS (.inl rfl) rfl Fb25 rfl .nil rfl ?_; clear hS
        intro tm hS
        refine pp1 hS rfl rfl ?_; clear hS
        intro tm hS
        refine o_st (k := 3) hS (.inl rfl) rfl rfl rfl Fs25 rfl rfl (all_cons rfl (all_cons rfl (all_cons rfl all_nil))) rfl ?_; clear hS; try clear H
        intro H hS
        refine pp1 hS rfl rfl ?_; clear hS
        intro tm hS
        refine o_nil (hR _ _ ?_)
        clear hR R
        refine wpC.ret ?_
        obtain rfl := Option.some.inj h5
        obtain rfl := hq5 _ rfl
        refine And.intro rfl ?_
        obtain rfl := leave h3
        obtain rfl := hq3 _ rfl
        refine And.intro rfl ?_
        obtain rfl := leave h0
        replace hS := hS.nilOwn (rI .i64)
        replace hS := hS.nilOwn (rI .i64)
        refine Exists.intro _ (And.intro (rs_cellA (k := 5) hS rfl rfl (.inl rfl) Fu25 rfl Fs25 rfl (rs_tmp hS rfl rs_nil)) ?_)
        have hI := hS.inv
        exact ⟨(.slice none 0 0), (.slice none 0 0), rfl, (((hI.pull 0 rfl).pull 1 rfl).take 2)⟩
       ·replace h5 := iteF hc h5
        refine wpC.skip ?_
        refine c_reg1 fun R hR => ?_
        refine pp1 hS rfl rfl ?_; clear hS
        intro tm hS
        refine o_ld1 (k := 4) hS (.inl rfl) rfl rfl rfl (.inl rfl) Fu23 rfl rfl ?_; clear hS
        intro tm hS
        refine pp1 hS rfl rfl ?_; clear hS
        intro tm hS
        refine o_ld1 (k := 0) hS (.inl rfl) rfl rfl rfl (.inl rfl) Fu2 rfl rfl ?_; clear hS
        intro tm hS
        refine o_lit (r := (rI .i64)) (l := [r14.n]) hS (.inl rfl) rfl Fl23 rfl rfl rfl (.cons rfl .nil) rfl rfl (ri_1 (rd_flat fun _ => rfl) ri_nil) rfl ?_; clear hS
        intro v13 tm H hS
        obtain ⟨l2, hx10, h5⟩ := bindS h5
        refine o_app (k1 := 6) (k2 := 0) (r := (rI .i64)) hS (.inl rfl) rfl rfl rfl rfl rfl (.inr (.inr rfl)) rfl Fe23_23 rfl hx10 ?_; clear hS
        intro v14 tm H hS
        refine pp1 hS rfl rfl ?_; clear hS
        intro tm hS
        refine o_st (k := 5) hS (.inl rfl) rfl rfl rfl Fs23 (cells_one (hS.one (k := 6) rfl (.inr (.inl rfl)))) rfl (all_cons (hS.one (k := 6) rfl (.inr (.inl rfl))) all_nil) rfl ?_; clear hS; try clear H
        intro H hS
        refine o_nil (hR _ _ ?_)
        clear hR R
        refine cs2 hS rfl rfl rfl rfl ?_; clear hS
        intro tm hS
        obtain rfl := Option.some.inj h5
        refine ⟨_, rfl, ?_⟩
        refine Exists.intro v14 ?_; change S wm 117 _ _ _ _ Fr; exact hS.keep (k12 rfl rfl rfl rfl rfl rfl rfl rfl rfl rfl rfl rfl) (fun hI => (hI.sub (sd (sd (sd (sc (sc (sc (sc (sc (sc (sc (sc sn)))))))))))))
      ·replace h5 := iteF hc h5
       refine wpC.exit ?_
       refine seqX ?_
       obtain rfl := Option.some.inj h5
       obtain rfl := hq5 _ rfl
       refine And.intro rfl (blk_eq ?_)
       replace h3 := joinN h3
       refine cs3 hS rfl rfl rfl rfl rfl rfl ?_; clear hS
       intro tm hS
       obtain rfl := Option.some.inj h3
       refine ⟨_, rfl, ?_⟩
       refine Exists.intro v11 ?_; change S wm 117 _ _ _ _ Fr; exact hS.keep (k10 rfl rfl rfl rfl rfl rfl rfl rfl rfl rfl) (fun hI => (hI.sub (sc (sc (sc (sc (sc (sc (sc (sc sn))))))))))
     ·replace h3 := iteF hc h3
      refine wpC.exit ?_
      refine seqX ?_
      obtain rfl := Option.some.inj h3
      obtain rfl := hq3 _ rfl
      refine And.intro rfl (blk_eq ?_)
      replace h0 := joinN h0
      refine c_reg fun R hR => ?_
      refine o_ldA (k := 2) hS (.inl rfl) rfl rfl rfl (.inl rfl) Fu25 rfl Fs25 rfl ?_; clear hS
      intro tm hS
      refine o_st (k := 1) hS (.inl rfl) rfl rfl rfl Fs25 rfl rfl (all_cons rfl (all_cons (hS.one (k := 7) rfl (.inr (.inl rfl))) (all_cons (hS.one (k := 3) rfl (.inr (.inl rfl))) all_nil))) rfl ?_; clear hS; try clear H
      intro H hS
      refine pp1 hS rfl rfl ?_; clear hS
      intro tm hS
      refine o_nil (hR _ _ ?_)
      clear hR R
      refine wpC.ret ?_
      obtain rfl := Option.some.inj h0
      refine Exists.intro _ (And.intro (rs_cellA (k := 1) hS rfl rfl (.inl rfl) Fu25 rfl Fs25 rfl (rs_tmp hS rfl rs_nil)) ?_)
      have hI := hS.inv
      exact ⟨v8, v10, rfl, (((hI.pull 3 rfl).pull 7 rfl).take 2)⟩
theorem wk8 {wm : Nat} {H : AHeap} {Fr : List Ent} (ho9 : ora 9 = true) (ho100 : ora 100 = false) (f1 : ByteArray) (g1 : ByteArray) (rows1 : Int) (cols1 : Int) (n1 : Int) (x1 : (List Int)) (y1 : (List Int))  (v1 : Value) (v2 : Value) (hI : Kn wm H [.fz (rI .i64) v1 x1, .fz (rI .i64) v2 y1] Fr) {r : Bool} (h0 : M.anamnesislaw12_OverInner f1 g1 rows1 cols1 n1 x1 y1 = some r) :
  wpF Try.prog ora wm 8 [.string f1, .string g1, .int .u8 rows1, .int .u8 cols1, .int .u8 n1, v1, v2] H (fun res H => res = .bool r ∧ Kn wm H [] Fr) := by
 unfold M.anamnesislaw12_OverInner at h0
 refine f_enter (n := 228) Try.func8 rfl (by simp) hI rfl rfl rfl fun tm hS => ?_
 clear hI
 refine cr1 hS rfl rfl ?_; clear hS
 intro tm hS
 refine c_seqS ?_
 refine c_reg fun R hR => ?_
 refine pp4 hS rfl rfl rfl rfl rfl rfl rfl rfl ?_; clear hS
 intro tm hS
 obtain ⟨c1, hc1⟩ : ∃ x : Bool, x = ((decide ((f1.size : Int) > 10)) || (decide ((g1.size : Int) > 10))) := ⟨_, rfl⟩
 refine o_cutN 4 (J := fun tm H => S wm 228 tm H [(41, .bool c1), (0, .string f1), (1, .string g1), (2, .int .u8 rows1), (3, .int .u8 cols1), (4, .int .u8 n1), (5, v1), (6, v2)] [.fz (rI .i64) v1 x1, .fz (rI .i64) v2 y1] Fr) ?_ ?_
 ·rcases Bool.eq_false_or_eq_true (decide ((f1.size : Int) > 10)) with hg1 | hg1
  ·refine o_skip hS rfl rfl rfl hg1 ?_; clear hS
   intro tm hS
   refine o_skip hS rfl rfl rfl hg1 ?_; clear hS
   intro tm hS
   refine o_skip hS rfl rfl rfl hg1 ?_; clear hS
   intro tm hS
   refine o_pickT hS (.inl rfl) rfl rfl hg1 rfl ?_; clear hS
   intro tm hS
   have hc1 : c1 = true := hc1.trans (by rw [hg1]; first | rfl | simp)
   subst hc1
   exact o_nil (hS.keep (k8 rfl rfl rfl rfl rfl rfl rfl rfl) (fun hI => (hI.sub (sc (sc sn)))))
  ·refine o_pure hS (.inr ⟨_, _, _, _, rfl, rfl, rfl, hg1⟩) rfl rfl ?_; clear hS
   intro tm hS
   refine o_pure hS (.inr ⟨_, _, _, _, rfl, rfl, rfl, hg1⟩) rfl rfl ?_; clear hS
   intro tm hS
   refine o_pure hS (.inr ⟨_, _, _, _, rfl, rfl, rfl, hg1⟩) rfl rfl ?_; clear hS
   intro tm hS
   refine o_pickF hS (.inl rfl) rfl rfl hg1 rfl ?_; clear hS
   intro tm hS
   have hc1 : c1 = (decide ((g1.size : Int) > 10)) := hc1.trans (by rw [hg1]; first | rfl | simp)
   subst hc1
   exact o_nil (hS.keep (k8 rfl rfl rfl rfl rfl rfl rfl rfl) (fun hI => (hI.sub (sc (sc sn)))))
 intro tm H hS
 subst hc1
 refine pp1 hS rfl rfl ?_; clear hS
 intro tm hS
 obtain ⟨c2, hc2⟩ : ∃ x : Bool, x = (((decide ((f1.size : Int) > 10)) || (decide ((g1.size : Int) > 10))) || ((x1.length : Int) == 0)) := ⟨_, rfl⟩
 refine o_cutN 4 (J := fun tm H => S wm 228 tm H [(46, .bool c2), (0, .string f1), (1, .string g1), (2, .int .u8 rows1), (3, .int .u8 cols1), (4, .int .u8 n1), (5, v1), (6, v2)] [.fz (rI .i64) v1 x1, .fz (rI .i64) v2 y1] Fr) ?_ ?_
 ·rcases Bool.eq_false_or_eq_true ((decide ((f1.size : Int) > 10)) || (decide ((g1.size : Int) > 10))) with hg2 | hg2
  ·refine o_skip hS rfl rfl rfl hg2 ?_; clear hS
   intro tm hS
   refine o_skip hS rfl rfl rfl hg2 ?_; clear hS
   intro tm hS
   refine o_skip hS rfl rfl rfl hg2 ?_; clear hS
   intro tm hS
   refine o_pickT hS (.inl rfl) rfl rfl hg2 rfl ?_; clear hS
   intro tm hS
   have hc2 : c2 = true := hc2.trans (by rw [hg2]; first | rfl | simp)
   subst hc2
   exact o_nil (hS.keep (k8 rfl rfl rfl rfl rfl rfl rfl rfl) (fun hI => (hI.sub (sc (sc sn)))))
  ·refine o_pure hS (.inr ⟨_, _, _, _, rfl, rfl, rfl, hg2⟩) rfl rfl ?_; clear hS
   intro tm hS
   refine o_len (k := 0) (r := (rI .i64)) hS (.inr ⟨_, _, _, _, rfl, rfl, rfl, hg2⟩) rfl rfl rfl (.inl rfl) Fu23 rfl ?_; clear hS
   intro tm hS
   refine o_pure hS (.inr ⟨_, _, _, _, rfl, rfl, rfl, hg2⟩) rfl rfl ?_; clear hS
   intro tm hS
   refine o_pickF hS (.inl rfl) rfl rfl hg2 rfl ?_; clear hS
   intro tm hS
   have hc2 : c2 = ((x1.length : Int) == 0) := hc2.trans (by rw [hg2]; first | rfl | simp)
   subst hc2
   exact o_nil (hS.keep (k8 rfl rfl rfl rfl rfl rfl rfl rfl) (fun hI => (hI.sub (sc (sc sn)))))
 intro tm H hS
 subst hc2
 refine pp1 hS rfl rfl ?_; clear hS
 intro tm hS
 obtain ⟨c3, hc3⟩ : ∃ x : Bool, x = ((((decide ((f1.size : Int) > 10)) || (decide ((g1.size : Int) > 10))) || ((x1.length : Int) == 0)) || ((y1.length : Int) == 0)) := ⟨_, rfl⟩
 refine o_cutN 4 (J := fun tm H => S wm 228 tm H [(51, .bool c3), (0, .string f1), (1, .string g1), (2, .int .u8 rows1), (3, .int .u8 cols1), (4, .int .u8 n1), (5, v1), (6, v2)] [.fz (rI .i64) v1 x1, .fz (rI .i64) v2 y1] Fr) ?_ ?_
 ·rcases Bool.eq_false_or_eq_true (((decide ((f1.size : Int) > 10)) || (decide ((g1.size : Int) > 10))) || ((x1.length : Int) == 0)) with hg3 | hg3
  ·refine o_skip hS rfl rfl rfl hg3 ?_; clear hS
   intro tm hS
   refine o_skip hS rfl rfl rfl hg3 ?_; clear hS
   intro tm hS
   refine o_skip hS rfl rfl rfl hg3 ?_; clear hS
   intro tm hS
   refine o_pickT hS (.inl rfl) rfl rfl hg3 rfl ?_; clear hS
   intro tm hS
   have hc3 : c3 = true := hc3.trans (by rw [hg3]; first | rfl | simp)
   subst hc3
   exact o_nil (hS.keep (k8 rfl rfl rfl rfl rfl rfl rfl rfl) (fun hI => (hI.sub (sc (sc sn)))))
  ·refine o_pure hS (.inr ⟨_, _, _, _, rfl, rfl, rfl, hg3⟩) rfl rfl ?_; clear hS
   intro tm hS
   refine o_len (k := 1) (r := (rI .i64)) hS (.inr ⟨_, _, _, _, rfl, rfl, rfl, hg3⟩) rfl rfl rfl (.inl rfl) Fu23 rfl ?_; clear hS
   intro tm hS
   refine o_pure hS (.inr ⟨_, _, _, _, rfl, rfl, rfl, hg3⟩) rfl rfl ?_; clear hS
   intro tm hS
   refine o_pickF hS (.inl rfl) rfl rfl hg3 rfl ?_; clear hS
   intro tm hS
   have hc3 : c3 = ((y1.length : Int) == 0) := hc3.trans (by rw [hg3]; first | rfl | simp)
   subst hc3
   exact o_nil (hS.keep (k8 rfl rfl rfl rfl rfl rfl rfl rfl) (fun hI => (hI.sub (sc (sc sn)))))
 intro tm H hS
 subst hc3
 refine o_nil (hR _ _ ?_)
 clear hR R
 refine c_cond hS rfl (fun hc => ?_) (fun hc => ?_)
 ·replace h0 := iteT hc h0
  refine c_reg fun R hR => ?_
  refine o_call hS (.inl rfl) rfl (fun wm' hw1 hw2 => wpF.told ho9 (Q := fun v H' => v = .bool true ∧ H' = H) ⟨rfl, rfl⟩) (fun wm' res H hw' hp => ?_)
  obtain ⟨rfl, rfl⟩ := hp
  replace hS := hS.put (d := 52) rfl (.bool true)
  clear hw'
  refine pp1 hS rfl rfl ?_; clear hS
  intro tm hS
  refine o_nil (hR _ _ ?_)
  clear hR R
  refine wpC.ret ?_
  obtain rfl := Option.some.inj h0
  refine Exists.intro _ (And.intro (rs_tmp hS rfl rs_nil) ?_)
  have hI := hS.inv
  exact ⟨rfl, (hI.sub sn)⟩
 ·replace h0 := iteF hc h0
  refine wpC.skip ?_
  refine cr4 hS rfl rfl rfl rfl rfl rfl rfl rfl ?_; clear hS
  intro tm hS
  refine cr4 hS rfl rfl rfl rfl rfl rfl rfl rfl ?_; clear hS
  intro tm hS
  refine cr4 hS rfl rfl rfl rfl rfl rfl rfl rfl ?_; clear hS
  intro tm hS
  refine c_reg fun R hR => ?_
  refine pp2 hS rfl rfl rfl rfl ?_; clear hS
  intro tm hS
  refine o_lit (r := (rI .i64)) (l := [(IntKind.i64.wrap (Int.tmod rows1 6)), (IntKind.i64.wrap (Int.tmod n1 6))]) hS (.inl rfl) rfl Fl22 rfl rfl rfl (.cons rfl (.cons rfl .nil)) rfl rfl (ri_1 (rd_flat fun _ => rfl) (ri_1 (rd_flat fun _ => rfl) ri_nil)) rfl ?_; clear hS
  intro v3 tm H hS
  replace hS := hS.litOwn (k := 0) rfl
  replace hS := hS.nilOwn (rI .i64)
  replace hS := hS.front 0 rfl
  replace hS := hS.front 1 rfl
  obtain ⟨r1, hx1, h0⟩ := bindS h0
  refine o_callO hS (.inl rfl) rfl rfl (wk19o01  ([(IntKind.i64.wrap (Int.tmod rows1 6)), (IntKind.i64.wrap (Int.tmod n1 6))]) ([])  v3 (.slice none 0 0) (hS.selN 2) hx1) (fun res H hp => ?_)
  obtain ⟨v4, v5, hres, hI⟩ := hp
  replace hres := hres.symm; subst hres
  replace hS : S wm 228 _ H ((65, .agg #[.bool r1.Char, v4, v5]) :: _) ([.own (rI .i64) v4 r1.Shape, .own (rI .i64) v5 r1.Data] ++ _) Fr := hS.afterN rfl hI
  clear hI
  refine o_alloc hS (.inl rfl) rfl Fz25 (by decide) ?_; clear hS
  intro b1 tm H hS
  refine o_st (k := 0) hS (.inl rfl) rfl rfl rfl Fs25 rfl rfl (all_cons rfl (all_cons (hS.one (k := 1) rfl (.inr (.inl rfl))) (all_cons (hS.one (k := 2) rfl (.inr (.inl rfl))) all_nil))) rfl ?_; clear hS; try clear H
  intro H hS
  refine o_nil (hR _ _ ?_)
  clear hR R
  refine c_reg fun R hR => ?_
  refine pp2 hS rfl rfl rfl rfl ?_; clear hS
  intro tm hS
  refine o_lit (r := (rI .i64)) (l := [(IntKind.i64.wrap (Int.tmod n1 6)), (IntKind.i64.wrap (Int.tmod cols1 6))]) hS (.inl rfl) rfl Fl22 rfl rfl rfl (.cons rfl (.cons rfl .nil)) rfl rfl (ri_1 (rd_flat fun _ => rfl) (ri_1 (rd_flat fun _ => rfl) ri_nil)) rfl ?_; clear hS
  intro v6 tm H hS
  replace hS := hS.litOwn (k := 0) rfl
  replace hS := hS.nilOwn (rI .i64)
  replace hS := hS.front 0 rfl
  replace hS := hS.front 1 rfl
  obtain ⟨r2, hx2, h0⟩ := bindS h0
  refine o_callO hS (.inl rfl) rfl rfl (wk19o01  ([(IntKind.i64.wrap (Int.tmod n1 6)), (IntKind.i64.wrap (Int.tmod cols1 6))]) ([])  v6 (.slice none 0 0) (hS.selN 2) hx2) (fun res H hp => ?_)
  obtain ⟨v7, v8, hres, hI⟩ := hp
  replace hres := hres.symm; subst hres
  replace hS : S wm 228 _ H ((69, .agg #[.bool r2.Char, v7, v8]) :: _) ([.own (rI .i64) v7 r2.Shape, .own (rI .i64) v8 r2.Data] ++ _) Fr := hS.afterN rfl hI
  clear hI
  refine o_alloc hS (.inl rfl) rfl Fz25 (by decide) ?_; clear hS
  intro b2 tm H hS
  refine o_st (k := 0) hS (.inl rfl) rfl rfl rfl Fs25 rfl rfl (all_cons rfl (all_cons (hS.one (k := 1) rfl (.inr (.inl rfl))) (all_cons (hS.one (k := 2) rfl (.inr (.inl rfl))) all_nil))) rfl ?_; clear hS; try clear H
  intro H hS
  refine o_nil (hR _ _ ?_)
  clear hR R
  refine c_seqS ?_
  refine cr1 hS rfl rfl ?_; clear hS
  intro tm hS
  obtain ⟨k1, hw1, h0⟩ := bindS h0
  refine wpC.block ?_
  refine c_loop (I := fun (s : Int × (List Int)) tm H => match (generalizing := false) s with | (i1, Data1) => ∃ v9, S wm 228 tm H [(0, .string f1), (1, .string g1), (5, v1), (6, v2), (15, .int .i64 (IntKind.i64.wrap (Int.tmod rows1 6))), (16, .int .i64 (IntKind.i64.wrap (Int.tmod cols1 6))), (17, .int .i64 (IntKind.i64.wrap (Int.tmod n1 6))), (18, .pointer (some ⟨b1, 0, none⟩)), (19, .pointer (some ⟨b2, 0, none⟩)), (20, .int .i64 i1)] [.box b1 [.bool r1.Char, v4, v9], .box b2 [.bool r2.Char, v7, v8], .own (rI .i64) v9 Data1, .fz (rI .i64) v1 x1, .fz (rI .i64) v2 y1, .own (rI .i64) v4 r1.Shape, .own (rI .i64) v7 r2.Shape, .own (rI .i64) v8 r2.Data] Fr) hw1 (by refine Exists.intro v5 ?_; change S wm 228 _ _ _ _ Fr; exact hS.keep (k10 rfl rfl rfl rfl rfl rfl rfl rfl rfl rfl) (fun hI => (hI.pick [3, 0, 5, 6, 7, 4, 1, 2] rfl))) ?_
  clear hS
  intro s1 tm H c4 hS h1 hq1
  obtain ⟨i1, Data1⟩ := s1
  obtain ⟨v9, hS⟩ := hS
  change S wm 228 tm H [(0, .string f1), (1, .string g1), (5, v1), (6, v2), (15, .int .i64 (IntKind.i64.wrap (Int.tmod rows1 6))), (16, .int .i64 (IntKind.i64.wrap (Int.tmod cols1 6))), (17, .int .i64 (IntKind.i64.wrap (Int.tmod n1 6))), (18, .pointer (some ⟨b1, 0, none⟩)), (19, .pointer (some ⟨b2, 0, none⟩)), (20, .int .i64 i1)] [.box b1 [.bool r1.Char, v4, v9], .box b2 [.bool r2.Char, v7, v8], .own (rI .i64) v9 Data1, .fz (rI .i64) v1 x1, .fz (rI .i64) v2 y1, .own (rI .i64) v4 r1.Shape, .own (rI .i64) v7 r2.Shape, .own (rI .i64) v8 r2.Data] Fr at hS
  refine c_seqS ?_
  refine cr5 hS rfl rfl rfl rfl rfl rfl rfl rfl rfl rfl ?_; clear hS
  intro tm hS
  refine c_cond hS rfl (fun hc => ?_) (fun hc => ?_)
  ·replace h1 := iteT hc h1
   refine wpC.skip ?_
   refine c_seqS ?_
   refine wpC.block ?_
   refine c_reg1 fun R hR => ?_
   refine pp1 hS rfl rfl ?_; clear hS
   intro tm hS
   refine o_ld1 (k := 0) hS (.inl rfl) rfl rfl rfl (.inl rfl) Fu23 rfl rfl ?_; clear hS
   intro tm hS
   refine pp3 hS rfl rfl rfl rfl rfl rfl ?_; clear hS
   intro tm hS
   refine o_len (k := 3) (r := (rI .i64)) hS (.inl rfl) rfl rfl rfl (.inl rfl) Fu23 rfl ?_; clear hS
   intro tm hS
   obtain ⟨q1, hx3, h1⟩ := bindS h1
   refine o_rem hS (.inl rfl) rfl rfl rfl hx3 ?_; clear hS
   intro tm hS
   obtain ⟨y2, hx4, h1⟩ := bindS h1
   refine o_ixA (k := 3) (r := (rI .i64)) hS (.inl rfl) rfl rfl rfl rfl (.inl rfl) Fu23 Fs2 hx4 ?_; clear hS
   intro tm hS
   refine o_ldF (r := (rI .i64)) (k := 3) hS (.inl rfl) rfl rfl rfl (.inl rfl) hx4 Fu2 rfl (flat_I _) rfl ?_; clear hS
   intro tm hS
   refine o_lit (r := (rI .i64)) (l := [y2]) hS (.inl rfl) rfl Fl23 rfl rfl rfl (.cons rfl .nil) rfl rfl (ri_1 (rd_flat fun _ => rfl) ri_nil) rfl ?_; clear hS
   intro v10 tm H hS
   obtain ⟨l1, hx5, h1⟩ := bindS h1
   refine o_app (k1 := 3) (k2 := 0) (r := (rI .i64)) hS (.inl rfl) rfl rfl rfl rfl rfl (.inr (.inr rfl)) rfl Fe23_23 rfl hx5 ?_; clear hS
   intro v11 tm H hS
   refine pp1 hS rfl rfl ?_; clear hS
   intro tm hS
   refine o_st (k := 1) hS (.inl rfl) rfl rfl rfl Fs23 (cells_one (hS.one (k := 3) rfl (.inr (.inl rfl)))) rfl (all_cons (hS.one (k := 3) rfl (.inr (.inl rfl))) all_nil) rfl ?_; clear hS; try clear H
   intro H hS
   refine o_nil (hR _ _ ?_)
   clear hR R
   refine cs3 hS rfl rfl rfl rfl rfl rfl ?_; clear hS
   intro tm hS
   obtain rfl := Option.some.inj h1
   refine ⟨_, rfl, ?_⟩
   refine Exists.intro v11 ?_; change S wm 228 _ _ _ _ Fr; exact hS.keep (k10 rfl rfl rfl rfl rfl rfl rfl rfl rfl rfl) (fun hI => (hI.sub (sd (sc (sc (sc (sc (sc (sc (sc (sc sn)))))))))))
  ·replace h1 := iteF hc h1
   refine wpC.exit ?_
   refine seqX ?_
   obtain rfl := Option.some.inj h1
   obtain rfl := hq1 _ rfl
   refine And.intro rfl (blk_eq ?_)
   replace h0 := joinN h0
   refine c_seqS ?_
   refine cr1 hS rfl rfl ?_; clear hS
   intro tm hS
   obtain ⟨k2, hw2, h0⟩ := bindS h0
   refine wpC.block ?_
   refine c_loop (I := fun (s : Int × (List Int)) tm H => match (generalizing := false) s with | (i2, Data2) => ∃ v12, S wm 228 tm H [(0, .string f1), (1, .string g1), (6, v2), (15, .int .i64 (IntKind.i64.wrap (Int.tmod rows1 6))), (16, .int .i64 (IntKind.i64.wrap (Int.tmod cols1 6))), (17, .int .i64 (IntKind.i64.wrap (Int.tmod n1 6))), (18, .pointer (some ⟨b1, 0, none⟩)), (19, .pointer (some ⟨b2, 0, none⟩)), (21, .int .i64 i2)] [.box b1 [.bool r1.Char, v4, v9], .box b2 [.bool r2.Char, v7, v12], .own (rI .i64) v12 Data2, .fz (rI .i64) v2 y1, .own (rI .i64) v4 r1.Shape, .own (rI .i64) v9 Data1, .own (rI .i64) v7 r2.Shape] Fr) hw2 (by refine Exists.intro v8 ?_; change S wm 228 _ _ _ _ Fr; exact hS.keep (k9 rfl rfl rfl rfl rfl rfl rfl rfl rfl) (fun hI => ((((((((hI.pull 6 rfl).pull 3 rfl).pull 6 rfl).pull 6 rfl).pull 7 rfl).pull 6 rfl).pull 6 rfl).take 7))) ?_
   clear hS
   intro s2 tm H c5 hS h11 hq11
   obtain ⟨i2, Data2⟩ := s2
   obtain ⟨v12, hS⟩ := hS
   change S wm 228 tm H [(0, .string f1), (1, .string g1), (6, v2), (15, .int .i64 (IntKind.i64.wrap (Int.tmod rows1 6))), (16, .int .i64 (IntKind.i64.wrap (Int.tmod cols1 6))), (17, .int .i64 (IntKind.i64.wrap (Int.tmod n1 6))), (18, .pointer (some ⟨b1, 0, none⟩)), (19, .pointer (some ⟨b2, 0, none⟩)), (21, .int .i64 i2)] [.box b1 [.bool r1.Char, v4, v9], .box b2 [.bool r2.Char, v7, v12], .own (rI .i64) v12 Data2, .fz (rI .i64) v2 y1, .own (rI .i64) v4 r1.Shape, .own (rI .i64) v9 Data1, .own (rI .i64) v7 r2.Shape] Fr at hS
   refine c_seqS ?_
   refine cr5 hS rfl rfl rfl rfl rfl rfl rfl rfl rfl rfl ?_; clear hS
   intro tm hS
   refine c_cond hS rfl (fun hc => ?_) (fun hc => ?_)
   ·replace h11 := iteT hc h11
    refine wpC.skip ?_
    refine c_seqS ?_
    refine wpC.block ?_
    refine c_reg1 fun R hR => ?_
    refine pp1 hS rfl rfl ?_; clear hS
    intro tm hS
    refine o_ld1 (k := 1) hS (.inl rfl) rfl rfl rfl (.inl rfl) Fu23 rfl rfl ?_; clear hS
    intro tm hS
    refine pp3 hS rfl rfl rfl rfl rfl rfl ?_; clear hS
    intro tm hS
    refine o_len (k := 3) (r := (rI .i64)) hS (.inl rfl) rfl rfl rfl (.inl rfl) Fu23 rfl ?_; clear hS
    intro tm hS
    obtain ⟨q2, hx6, h11⟩ := bindS h11
    refine o_rem hS (.inl rfl) rfl rfl rfl hx6 ?_; clear hS
    intro tm hS
    obtain ⟨y3, hx7, h11⟩ := bindS h11
    refine o_ixA (k := 3) (r := (rI .i64)) hS (.inl rfl) rfl rfl rfl rfl (.inl rfl) Fu23 Fs2 hx7 ?_; clear hS
    intro tm hS
    refine o_ldF (r := (rI .i64)) (k := 3) hS (.inl rfl) rfl rfl rfl (.inl rfl) hx7 Fu2 rfl (flat_I _) rfl ?_; clear hS
    intro tm hS
    refine o_lit (r := (rI .i64)) (l := [y3]) hS (.inl rfl) rfl Fl23 rfl rfl rfl (.cons rfl .nil) rfl rfl (ri_1 (rd_flat fun _ => rfl) ri_nil) rfl ?_; clear hS
    intro v13 tm H hS
    obtain ⟨l2, hx8, h11⟩ := bindS h11
    refine o_app (k1 := 3) (k2 := 0) (r := (rI .i64)) hS (.inl rfl) rfl rfl rfl rfl rfl (.inr (.inr rfl)) rfl Fe23_23 rfl hx8 ?_; clear hS
    intro v14 tm H hS
    refine pp1 hS rfl rfl ?_; clear hS
    intro tm hS
    refine o_st (k := 2) hS (.inl rfl) rfl rfl rfl Fs23 (cells_one (hS.one (k := 3) rfl (.inr (.inl rfl)))) rfl (all_cons (hS.one (k := 3) rfl (.inr (.inl rfl))) all_nil) rfl ?_; clear hS; try clear H
    intro H hS
    refine o_nil (hR _ _ ?_)
    clear hR R
    refine cs3 hS rfl rfl rfl rfl rfl rfl ?_; clear hS
    intro tm hS
    obtain rfl := Option.some.inj h11
    refine ⟨_, rfl, ?_⟩
    refine Exists.intro v14 ?_; change S wm 228 _ _ _ _ Fr; exact hS.keep (k9 rfl rfl rfl rfl rfl rfl rfl rfl rfl) (fun hI => (hI.sub (sd (sc (sc (sc (sc (sc (sc (sc sn))))))))))
   ·replace h11 := iteF hc h11
    refine wpC.exit ?_
    refine seqX ?_
    obtain rfl := Option.some.inj h11
    obtain rfl := hq11 _ rfl
    refine And.intro rfl (blk_eq ?_)
    replace h0 := joinN h0
    refine c_reg fun R hR => ?_
    refine pp2 hS rfl rfl rfl rfl ?_; clear hS
    intro tm hS
    refine o_ldA (k := 0) hS (.inl rfl) rfl rfl rfl (.inl rfl) Fu25 rfl Fs25 rfl ?_; clear hS
    intro tm hS
    refine o_ldA (k := 1) hS (.inl rfl) rfl rfl rfl (.inl rfl) Fu25 rfl Fs25 rfl ?_; clear hS
    intro tm hS
    obtain ⟨⟨r3, r4⟩, hx9, h0⟩ := bindS h0
    refine o_call (Pc := fun _ res H => ∃ v15 v16, res = .tuple #[.agg #[.bool r3.Char, v15, v16], .int .i64 r4] ∧ Kn wm H ([.own (rI .i64) v15 r3.Shape, .own (rI .i64) v16 r3.Data] ++ [.box b1 [.bool r1.Char, v4, v9], .box b2 [.bool r2.Char, v7, v12], .own (rI .i64) v12 Data2, .fz (rI .i64) v2 y1, .own (rI .i64) v4 r1.Shape, .own (rI .i64) v9 Data1, .own (rI .i64) v7 r2.Shape]) Fr) hS (.inl rfl) rfl (fun wm' hw1 hw2 => by
     obtain ⟨F2, kk_1, kk_2⟩ := hS.inv.lendR (La := [.fz (rI .i64) v4 r1.Shape, .fz (rI .i64) v9 Data1, .fz (rI .i64) v7 r2.Shape, .fz (rI .i64) v12 Data2]) (List.forall_mem_cons.mpr ⟨(.inr ⟨_, _, _, _, rfl, .inl (List.mem_of_getElem? (i := 4) rfl)⟩), (List.forall_mem_cons.mpr ⟨(.inr ⟨_, _, _, _, rfl, .inl (List.mem_of_getElem? (i := 5) rfl)⟩), (List.forall_mem_cons.mpr ⟨(.inr ⟨_, _, _, _, rfl, .inl (List.mem_of_getElem? (i := 6) rfl)⟩), (List.forall_mem_cons.mpr ⟨(.inr ⟨_, _, _, _, rfl, .inl (List.mem_of_getElem? (i := 2) rfl)⟩), (fun _ h => by cases h)⟩)⟩)⟩)⟩) hw1 hw2
     exact (wk16 ho100 f1 g1 (Val.mk r1.Char r1.Shape Data1) (Val.mk r2.Char r2.Shape Data2)  v4 v9 v7 v12 kk_1 hx9).mono fun res H2 ⟨v15, v16, qq_1, qq_2⟩ => ⟨v15, v16, qq_1, kk_2 _ _ (List.forall_mem_cons.mpr ⟨⟨_, _, _, _, rfl, fun _ _ _ _ h => h⟩, (List.forall_mem_cons.mpr ⟨⟨_, _, _, _, rfl, fun _ _ _ _ h => h⟩, (fun _ h => by cases h)⟩)⟩) qq_2⟩) (fun wm' res H hw' hp => ?_)
    obtain ⟨v15, v16, hres, hI⟩ := hp
    replace hres := hres.symm; subst hres
    replace hS : S wm 228 _ H ((113, .tuple #[.agg #[.bool r3.Char, v15, v16], .int .i64 r4]) :: _) ([.own (rI .i64) v15 r3.Shape, .own (rI .i64) v16 r3.Data] ++ [.box b1 [.bool r1.Char, v4, v9], .box b2 [.bool r2.Char, v7, v12], .own (rI .i64) v12 Data2, .fz (rI .i64) v2 y1, .own (rI .i64) v4 r1.Shape, .own (rI .i64) v9 Data1, .own (rI .i64) v7 r2.Shape]) Fr := (hS.put rfl _).withK hI
    clear hI hw'
    refine pp3 hS rfl rfl rfl rfl rfl rfl ?_; clear hS
    intro tm hS
    refine o_alloc hS (.inl rfl) rfl Fz25 (by decide) ?_; clear hS
    intro b3 tm H hS
    refine o_st (k := 0) hS (.inl rfl) rfl rfl rfl Fs25 rfl rfl (all_cons rfl (all_cons (hS.one (k := 1) rfl (.inr (.inl rfl))) (all_cons (hS.one (k := 2) rfl (.inr (.inl rfl))) all_nil))) rfl ?_; clear hS; try clear H
    intro H hS
    refine pp1 hS rfl rfl ?_; clear hS
    intro tm hS
    refine o_nil (hR _ _ ?_)
    clear hR R
    refine c_seqS ?_
    refine cr2 hS rfl rfl rfl rfl ?_; clear hS
    intro tm hS
    refine c_cond hS rfl (fun hc => ?_) (fun hc => ?_)
    ·replace h0 := iteT hc h0
     refine c_reg fun R hR => ?_
     refine o_ldA (k := 0) hS (.inl rfl) rfl rfl rfl (.inl rfl) Fu25 rfl Fs25 rfl ?_; clear hS
     intro tm hS
     refine pp2 hS rfl rfl rfl rfl ?_; clear hS
     intro tm hS
     obtain ⟨r5, hx10, h0⟩ := bindS h0
     refine o_call (Pc := fun _ res H => res = .bool r5 ∧ Kn wm H ([.box b3 [.bool r3.Char, v15, v16], .own (rI .i64) v15 r3.Shape, .own (rI .i64) v16 r3.Data, .box b1 [.bool r1.Char, v4, v9], .box b2 [.bool r2.Char, v7, v12], .own (rI .i64) v12 Data2, .fz (rI .i64) v2 y1, .own (rI .i64) v4 r1.Shape, .own (rI .i64) v9 Data1, .own (rI .i64) v7 r2.Shape]) Fr) hS (.inl rfl) rfl (fun wm' hw1 hw2 => by
      obtain ⟨F2, kk_1, kk_2⟩ := hS.inv.lend (La := [.fz (rI .i64) v15 r3.Shape, .fz (rI .i64) v16 r3.Data]) (List.forall_mem_cons.mpr ⟨(.inr ⟨_, _, _, _, rfl, .inl (List.mem_of_getElem? (i := 1) rfl)⟩), (List.forall_mem_cons.mpr ⟨(.inr ⟨_, _, _, _, rfl, .inl (List.mem_of_getElem? (i := 2) rfl)⟩), (fun _ h => by cases h)⟩)⟩) hw1 hw2
      exact (wk22  r3 r4 r4  v15 v16 kk_1 hx10).mono fun res H2 ⟨qq_1, qq_2⟩ => ⟨qq_1, kk_2 _ qq_2⟩) (fun wm' res H hw' hp => ?_)
     obtain ⟨hres, hI⟩ := hp
     replace hres := hres.symm; subst hres
     replace hS : S wm 228 _ H ((121, .bool r5) :: _) ([.box b3 [.bool r3.Char, v15, v16], .own (rI .i64) v15 r3.Shape, .own (rI .i64) v16 r3.Data, .box b1 [.bool r1.Char, v4, v9], .box b2 [.bool r2.Char, v7, v12], .own (rI .i64) v12 Data2, .fz (rI .i64) v2 y1, .own (rI .i64) v4 r1.Shape, .own (rI .i64) v9 Data1, .own (rI .i64) v7 r2.Shape]) Fr := (hS.put rfl _).withK hI
     clear hI hw'
     refine pp1 hS rfl rfl ?_; clear hS
     intro tm hS
     obtain ⟨c6, hc4⟩ : ∃ x : Bool, x = (r5 && true) := ⟨_, rfl⟩
     refine o_cutN 2 (J := fun tm H => S wm 228 tm H [(124, .bool c6)] [] Fr) ?_ ?_
     ·rcases Bool.eq_false_or_eq_true r5 with hg4 | hg4
      ·refine o_call hS (.inr ⟨_, _, _, _, rfl, rfl, rfl, hg4⟩) rfl (fun wm' hw1 hw2 => wpF.told ho9 (Q := fun v H' => v = .bool true ∧ H' = H) ⟨rfl, rfl⟩) (fun wm' res H hw' hp => ?_)
       obtain ⟨rfl, rfl⟩ := hp
       replace hS := hS.put (d := 123) rfl (.bool true)
       clear hw'
       refine o_pickT hS (.inl rfl) rfl rfl hg4 rfl ?_; clear hS
       intro tm hS
       have hc4 : c6 = true := hc4.trans (by rw [hg4]; first | rfl | simp)
       subst hc4
       exact o_nil (hS.keep (ka_cons rfl ka_nil) (fun hI => (hI.sub sn)))
      ·refine o_skip hS rfl rfl rfl hg4 ?_; clear hS
       intro tm hS
       refine o_pickF hS (.inl rfl) rfl rfl hg4 rfl ?_; clear hS
       intro tm hS
       have hc4 : c6 = false := hc4.trans (by rw [hg4]; first | rfl | simp)
       subst hc4
       exact o_nil (hS.keep (ka_cons rfl ka_nil) (fun hI => (hI.sub sn)))
     intro tm H hS
     subst hc4
     refine pp1 hS rfl rfl ?_; clear hS
     intro tm hS
     refine o_nil (hR _ _ ?_)
     clear hR R
     refine wpC.ret ?_
     obtain rfl := Option.some.inj h0
     refine Exists.intro _ (And.intro (rs_tmp hS rfl rs_nil) ?_)
     have hI := hS.inv
     exact ⟨rfl, (hI.sub sn)⟩
    ·replace h0 := iteF hc h0
     refine wpC.skip ?_
     refine c_seqS ?_
     refine c_reg fun R hR => ?_
     refine pp1 hS rfl rfl ?_; clear hS
     intro tm hS
     refine o_ld1 (k := 0) hS (.inl rfl) rfl rfl rfl (.inl rfl) Fu22 rfl rfl ?_; clear hS
     intro tm hS
     refine o_len (k := 1) (r := (rI .i64)) hS (.inl rfl) rfl rfl rfl (.inr (.inl rfl)) Fu22 rfl ?_; clear hS
     intro tm hS
     refine pp2 hS rfl rfl rfl rfl ?_; clear hS
     intro tm hS
     obtain ⟨c7, hc5, h0⟩ := bindS h0
     refine o_cutN 7 (J := fun tm H => S wm 228 tm H [(136, .bool c7), (0, .string f1), (1, .string g1), (15, .int .i64 (IntKind.i64.wrap (Int.tmod rows1 6))), (16, .int .i64 (IntKind.i64.wrap (Int.tmod cols1 6))), (18, .pointer (some ⟨b1, 0, none⟩)), (19, .pointer (some ⟨b2, 0, none⟩)), (22, .pointer (some ⟨b3, 0, none⟩))] [.box b3 [.bool r3.Char, v15, v16], .own (rI .i64) v15 r3.Shape, .own (rI .i64) v16 r3.Data, .box b1 [.bool r1.Char, v4, v9], .box b2 [.bool r2.Char, v7, v12], .own (rI .i64) v12 Data2, .own (rI .i64) v4 r1.Shape, .own (rI .i64) v9 Data1, .own (rI .i64) v7 r2.Shape] Fr) ?_ ?_
     ·rcases Bool.eq_false_or_eq_true ((r3.Shape.length : Int) != 2) with hg5 | hg5
      ·replace hc5 := iteT hg5 hc5
       refine o_skip hS rfl rfl rfl hg5 ?_; clear hS
       intro tm hS
       refine o_skip hS rfl rfl rfl hg5 ?_; clear hS
       intro tm hS
       refine o_skip hS rfl rfl rfl hg5 ?_; clear hS
       intro tm hS
       refine o_skip hS rfl rfl rfl hg5 ?_; clear hS
       intro tm hS
       refine o_skip hS rfl rfl rfl hg5 ?_; clear hS
       intro tm hS
       refine o_skip hS rfl rfl rfl hg5 ?_; clear hS
       intro tm hS
       refine o_pickT hS (.inl rfl) rfl rfl hg5 rfl ?_; clear hS
       intro tm hS
       obtain rfl := Option.some.inj hc5
       exact o_nil (hS.keep (k8 rfl rfl rfl rfl rfl rfl rfl rfl) (fun hI => (hI.sub (sc (sc (sc (sc (sc (sc (sd (sc (sc (sc sn)))))))))))))
      ·replace hc5 := iteF hg5 hc5
       refine o_pure hS (.inr ⟨_, _, _, _, rfl, rfl, rfl, hg5⟩) rfl rfl ?_; clear hS
       intro tm hS
       refine o_ld1 (k := 0) hS (.inr ⟨_, _, _, _, rfl, rfl, rfl, hg5⟩) rfl rfl rfl (.inl rfl) Fu22 rfl rfl ?_; clear hS
       intro tm hS
       obtain ⟨y4, hx11, hc5⟩ := bindS hc5
       refine o_ixA (k := 1) (r := (rI .i64)) hS (.inr ⟨_, _, _, _, rfl, rfl, rfl, hg5⟩) rfl rfl rfl rfl (.inr (.inl rfl)) Fu22 Fs3 hx11 ?_; clear hS
       intro tm hS
       refine o_ldF (r := (rI .i64)) (k := 1) hS (.inr ⟨_, _, _, _, rfl, rfl, rfl, hg5⟩) rfl rfl rfl (.inr (.inl rfl)) hx11 Fu3 rfl (flat_I _) rfl ?_; clear hS
       intro tm hS
       refine o_pure hS (.inr ⟨_, _, _, _, rfl, rfl, rfl, hg5⟩) rfl rfl ?_; clear hS
       intro tm hS
       refine o_pure hS (.inr ⟨_, _, _, _, rfl, rfl, rfl, hg5⟩) rfl rfl ?_; clear hS
       intro tm hS
       refine o_pickF hS (.inl rfl) rfl rfl hg5 rfl ?_; clear hS
       intro tm hS
       obtain rfl := Option.some.inj hc5
       exact o_nil (hS.keep (k8 rfl rfl rfl rfl rfl rfl rfl rfl) (fun hI => (hI.sub (sc (sc (sc (sc (sc (sc (sd (sc (sc (sc sn)))))))))))))
     intro tm H hS
     refine pp1 hS rfl rfl ?_; clear hS
     intro tm hS
     obtain ⟨c8, hc6, h0⟩ := bindS h0
     refine o_cutN 7 (J := fun tm H => S wm 228 tm H [(144, .bool c8), (0, .string f1), (1, .string g1), (15, .int .i64 (IntKind.i64.wrap (Int.tmod rows1 6))), (16, .int .i64 (IntKind.i64.wrap (Int.tmod cols1 6))), (18, .pointer (some ⟨b1, 0, none⟩)), (19, .pointer (some ⟨b2, 0, none⟩)), (22, .pointer (some ⟨b3, 0, none⟩))] [.box b3 [.bool r3.Char, v15, v16], .own (rI .i64) v15 r3.Shape, .own (rI .i64) v16 r3.Data, .box b1 [.bool r1.Char, v4, v9], .box b2 [.bool r2.Char, v7, v12], .own (rI .i64) v12 Data2, .own (rI .i64) v4 r1.Shape, .own (rI .i64) v9 Data1, .own (rI .i64) v7 r2.Shape] Fr) ?_ ?_
     ·rcases Bool.eq_false_or_eq_true c7 with hg6 | hg6
      ·replace hc6 := iteT hg6 hc6
       refine o_skip hS rfl rfl rfl hg6 ?_; clear hS
       intro tm hS
       refine o_skip hS rfl rfl rfl hg6 ?_; clear hS
       intro tm hS
       refine o_skip hS rfl rfl rfl hg6 ?_; clear hS
       intro tm hS
       refine o_skip hS rfl rfl rfl hg6 ?_; clear hS
       intro tm hS
       refine o_skip hS rfl rfl rfl hg6 ?_; clear hS
       intro tm hS
       refine o_skip hS rfl rfl rfl hg6 ?_; clear hS
       intro tm hS
       refine o_pickT hS (.inl rfl) rfl rfl hg6 rfl ?_; clear hS
       intro tm hS
       obtain rfl := Option.some.inj hc6
       exact o_nil (hS.keep (k8 rfl rfl rfl rfl rfl rfl rfl rfl) (fun hI => (hI.sub (sc (sc (sc (sc (sc (sc (sc (sc (sc sn))))))))))))
      ·replace hc6 := iteF hg6 hc6
       refine o_pure hS (.inr ⟨_, _, _, _, rfl, rfl, rfl, hg6⟩) rfl rfl ?_; clear hS
       intro tm hS
       refine o_ld1 (k := 0) hS (.inr ⟨_, _, _, _, rfl, rfl, rfl, hg6⟩) rfl rfl rfl (.inl rfl) Fu22 rfl rfl ?_; clear hS
       intro tm hS
       obtain ⟨y5, hx12, hc6⟩ := bindS hc6
       refine o_ixA (k := 1) (r := (rI .i64)) hS (.inr ⟨_, _, _, _, rfl, rfl, rfl, hg6⟩) rfl rfl rfl rfl (.inr (.inl rfl)) Fu22 Fs3 hx12 ?_; clear hS
       intro tm hS
       refine o_ldF (r := (rI .i64)) (k := 1) hS (.inr ⟨_, _, _, _, rfl, rfl, rfl, hg6⟩) rfl rfl rfl (.inr (.inl rfl)) hx12 Fu3 rfl (flat_I _) rfl ?_; clear hS
       intro tm hS
       refine o_pure hS (.inr ⟨_, _, _, _, rfl, rfl, rfl, hg6⟩) rfl rfl ?_; clear hS
       intro tm hS
       refine o_pure hS (.inr ⟨_, _, _, _, rfl, rfl, rfl, hg6⟩) rfl rfl ?_; clear hS
       intro tm hS
       refine o_pickF hS (.inl rfl) rfl rfl hg6 rfl ?_; clear hS
       intro tm hS
       obtain rfl := Option.some.inj hc6
       exact o_nil (hS.keep (k8 rfl rfl rfl rfl rfl rfl rfl rfl) (fun hI => (hI.sub (sc (sc (sc (sc (sc (sc (sc (sc (sc sn))))))))))))
     intro tm H hS
     refine pp1 hS rfl rfl ?_; clear hS
     intro tm hS
     obtain ⟨c9, hc7⟩ : ∃ x : Bool, x = (c8 || ((r3.Data.length : Int) != (IntKind.i64.wrap ((IntKind.i64.wrap (Int.tmod rows1 6)) * (IntKind.i64.wrap (Int.tmod cols1 6)))))) := ⟨_, rfl⟩
     refine o_cutN 8 (J := fun tm H => S wm 228 tm H [(153, .bool c9), (0, .string f1), (1, .string g1), (15, .int .i64 (IntKind.i64.wrap (Int.tmod rows1 6))), (16, .int .i64 (IntKind.i64.wrap (Int.tmod cols1 6))), (18, .pointer (some ⟨b1, 0, none⟩)), (19, .pointer (some ⟨b2, 0, none⟩)), (22, .pointer (some ⟨b3, 0, none⟩))] [.box b3 [.bool r3.Char, v15, v16], .own (rI .i64) v15 r3.Shape, .own (rI .i64) v16 r3.Data, .box b1 [.bool r1.Char, v4, v9], .box b2 [.bool r2.Char, v7, v12], .own (rI .i64) v12 Data2, .own (rI .i64) v4 r1.Shape, .own (rI .i64) v9 Data1, .own (rI .i64) v7 r2.Shape] Fr) ?_ ?_
     ·rcases Bool.eq_false_or_eq_true c8 with hg7 | hg7
      ·refine o_skip hS rfl rfl rfl hg7 ?_; clear hS
       intro tm hS
       refine o_skip hS rfl rfl rfl hg7 ?_; clear hS
       intro tm hS
       refine o_skip hS rfl rfl rfl hg7 ?_; clear hS
       intro tm hS
       refine o_skip hS rfl rfl rfl hg7 ?_; clear hS
       intro tm hS
       refine o_skip hS rfl rfl rfl hg7 ?_; clear hS
       intro tm hS
       refine o_skip hS rfl rfl rfl hg7 ?_; clear hS
       intro tm hS
       refine o_skip hS rfl rfl rfl hg7 ?_; clear hS
       intro tm hS
       refine o_pickT hS (.inl rfl) rfl rfl hg7 rfl ?_; clear hS
       intro tm hS
       have hc7 : c9 = true := hc7.trans (by rw [hg7]; first | rfl | simp)
       subst hc7
       exact o_nil (hS.keep (k8 rfl rfl rfl rfl rfl rfl rfl rfl) (fun hI => (hI.sub (sc (sc (sc (sc (sc (sc (sc (sc (sc sn))))))))))))
      ·refine o_pure hS (.inr ⟨_, _, _, _, rfl, rfl, rfl, hg7⟩) rfl rfl ?_; clear hS
       intro tm hS
       refine o_ld1 (k := 0) hS (.inr ⟨_, _, _, _, rfl, rfl, rfl, hg7⟩) rfl rfl rfl (.inl rfl) Fu23 rfl rfl ?_; clear hS
       intro tm hS
       refine o_len (k := 2) (r := (rI .i64)) hS (.inr ⟨_, _, _, _, rfl, rfl, rfl, hg7⟩) rfl rfl rfl (.inr (.inl rfl)) Fu23 rfl ?_; clear hS
       intro tm hS
       refine o_pure hS (.inr ⟨_, _, _, _, rfl, rfl, rfl, hg7⟩) rfl rfl ?_; clear hS
       intro tm hS
       refine o_pure hS (.inr ⟨_, _, _, _, rfl, rfl, rfl, hg7⟩) rfl rfl ?_; clear hS
       intro tm hS
       refine o_pure hS (.inr ⟨_, _, _, _, rfl, rfl, rfl, hg7⟩) rfl rfl ?_; clear hS
       intro tm hS
       refine o_pure hS (.inr ⟨_, _, _, _, rfl, rfl, rfl, hg7⟩) rfl rfl ?_; clear hS
       intro tm hS
       refine o_pickF hS (.inl rfl) rfl rfl hg7 rfl ?_; clear hS
       intro tm hS
       have hc7 : c9 = ((r3.Data.length : Int) != (IntKind.i64.wrap ((IntKind.i64.wrap (Int.tmod rows1 6)) * (IntKind.i64.wrap (Int.tmod cols1 6))))) := hc7.trans (by rw [hg7]; first | rfl | simp)
       subst hc7
       exact o_nil (hS.keep (k8 rfl rfl rfl rfl rfl rfl rfl rfl) (fun hI => (hI.sub (sc (sc (sc (sc (sc (sc (sc (sc (sc sn))))))))))))
     intro tm H hS
     subst hc7
     refine o_nil (hR _ _ ?_)
     clear hR R
     refine c_cond hS rfl (fun hc => ?_) (fun hc => ?_)
     ·replace h0 := iteT hc h0
      refine cr1 hS rfl rfl ?_; clear hS
      intro tm hS
      refine wpC.ret ?_
      obtain rfl := Option.some.inj h0
      refine Exists.intro _ (And.intro (rs_tmp hS rfl rs_nil) ?_)
      have hI := hS.inv
      exact ⟨rfl, (hI.sub sn)⟩
     ·replace h0 := iteF hc h0
      refine wpC.skip ?_
      refine c_seqS ?_
      refine cr1 hS rfl rfl ?_; clear hS
      intro tm hS
      obtain ⟨k3, hw3, h0⟩ := bindS h0
      refine wpC.block ?_
      refine c_loop (I := fun (s : Int) tm H => match (generalizing := false) s with | i3 => S wm 228 tm H [(0, .string f1), (1, .string g1), (15, .int .i64 (IntKind.i64.wrap (Int.tmod rows1 6))), (16, .int .i64 (IntKind.i64.wrap (Int.tmod cols1 6))), (18, .pointer (some ⟨b1, 0, none⟩)), (19, .pointer (some ⟨b2, 0, none⟩)), (22, .pointer (some ⟨b3, 0, none⟩)), (24, .int .i64 i3)] [.box b1 [.bool r1.Char, v4, v9], .box b2 [.bool r2.Char, v7, v12], .box b3 [.bool r3.Char, v15, v16], .own (rI .i64) v4 r1.Shape, .own (rI .i64) v9 Data1, .own (rI .i64) v7 r2.Shape, .own (rI .i64) v12 Data2, .own (rI .i64) v15 r3.Shape, .own (rI .i64) v16 r3.Data] Fr) hw3 (by change S wm 228 _ _ _ _ Fr; exact hS.keep (k8 rfl rfl rfl rfl rfl rfl rfl rfl) (fun hI => (hI.pick [3, 4, 0, 6, 7, 8, 5, 1, 2] rfl))) ?_
      clear hS
      intro i3 tm H c10 hS h17 hq17
      change S wm 228 tm H [(0, .string f1), (1, .string g1), (15, .int .i64 (IntKind.i64.wrap (Int.tmod rows1 6))), (16, .int .i64 (IntKind.i64.wrap (Int.tmod cols1 6))), (18, .pointer (some ⟨b1, 0, none⟩)), (19, .pointer (some ⟨b2, 0, none⟩)), (22, .pointer (some ⟨b3, 0, none⟩)), (24, .int .i64 i3)] [.box b1 [.bool r1.Char, v4, v9], .box b2 [.bool r2.Char, v7, v12], .box b3 [.bool r3.Char, v15, v16], .own (rI .i64) v4 r1.Shape, .own (rI .i64) v9 Data1, .own (rI .i64) v7 r2.Shape, .own (rI .i64) v12 Data2, .own (rI .i64) v15 r3.Shape, .own (rI .i64) v16 r3.Data] Fr at hS
      refine c_seqS ?_
      refine cr3 hS rfl rfl rfl rfl rfl rfl ?_; clear hS
      intro tm hS
      refine c_cond hS rfl (fun hc => ?_) (fun hc => ?_)
      ·replace h17 := iteT hc h17
       refine wpC.skip ?_
       refine c_seqS ?_
       refine wpC.block ?_
       refine c_reg fun R hR => ?_
       refine o_ldA (k := 0) hS (.inl rfl) rfl rfl rfl (.inl rfl) Fu25 rfl Fs25 rfl ?_; clear hS
       intro tm hS
       refine pp2 hS rfl rfl rfl rfl ?_; clear hS
       intro tm hS
       obtain ⟨r6, hx13, h17⟩ := bindS h17
       refine o_call hS (.inl rfl) rfl (fun wm' hw1 hw2 => wk20  (IntKind.i64.wrap (i3 + 1))   (hS.sel hw2) hx13) (fun wm' res H hw' hp => ?_)
       obtain ⟨v17, v18, hres, hI⟩ := hp
       replace hres := hres.symm; subst hres
       replace hS : S wm 228 _ H ((163, .agg #[.bool r6.Char, v17, v18]) :: _) ([.own (rI .i64) v17 r6.Shape, .own (rI .i64) v18 r6.Data] ++ _) Fr := hS.after rfl hw' hI
       clear hI hw'
       refine o_build hS (.inl rfl) rfl Fb53 rfl (.cons rfl .nil) rfl ?_; clear hS
       intro tm hS
       refine o_build hS (.inl rfl) rfl Fb53 rfl (.cons rfl .nil) rfl ?_; clear hS
       intro tm hS
       replace hS := hS.frz (k := 0) rfl
       replace hS := hS.frz (k := 1) rfl
       replace hS := hS.nilFz (rI .i64)
       refine o_lit (r := rPlace) (l := [(Am.Place.mk false r6), (Am.Place.mk true (Val.mk false ([]) ([])))]) hS (.inl rfl) rfl Fl51 rfl rfl rfl (.cons rfl (.cons rfl .nil)) rfl rfl (ri_4 (rd_Place (z := (Am.Place.mk false r6)) ⟨1, rfl⟩ ⟨2, rfl⟩) (ri_4 (rd_Place (z := (Am.Place.mk true (Val.mk false ([]) ([])))) ⟨0, rfl⟩ ⟨0, rfl⟩) ri_nil)) rfl ?_; clear hS
       intro v19 tm H hS
       obtain ⟨⟨r7, r8⟩, hx14, h17⟩ := bindS h17
       refine o_call (Pc := fun _ res H => ∃ v20 v21, res = .tuple #[.agg #[.bool r7.Char, v20, v21], .int .i64 r8] ∧ Kn wm H ([.own (rI .i64) v20 r7.Shape, .own (rI .i64) v21 r7.Data] ++ [.lit rPlace v19 ([(Am.Place.mk false r6), (Am.Place.mk true (Val.mk false ([]) ([])))]), .fz (rI .i64) (.slice none 0 0) ([]), .fz (rI .i64) v17 r6.Shape, .fz (rI .i64) v18 r6.Data, .box b1 [.bool r1.Char, v4, v9], .box b2 [.bool r2.Char, v7, v12], .box b3 [.bool r3.Char, v15, v16], .own (rI .i64) v4 r1.Shape, .own (rI .i64) v9 Data1, .own (rI .i64) v7 r2.Shape, .own (rI .i64) v12 Data2, .own (rI .i64) v15 r3.Shape, .own (rI .i64) v16 r3.Data]) Fr) hS (.inl rfl) rfl (fun wm' hw1 hw2 => by
        obtain ⟨F2, kk_1, kk_2⟩ := hS.inv.lendR (La := [.fz (rI .i64) v4 r1.Shape, .fz (rI .i64) v9 Data1, .fz rPlace v19 ([(Am.Place.mk false r6), (Am.Place.mk true (Val.mk false ([]) ([])))])]) (List.forall_mem_cons.mpr ⟨(.inr ⟨_, _, _, _, rfl, .inl (List.mem_of_getElem? (i := 7) rfl)⟩), (List.forall_mem_cons.mpr ⟨(.inr ⟨_, _, _, _, rfl, .inl (List.mem_of_getElem? (i := 8) rfl)⟩), (List.forall_mem_cons.mpr ⟨(.inr ⟨_, _, _, _, rfl, .inr (List.mem_of_getElem? (i := 0) rfl)⟩), (fun _ h => by cases h)⟩)⟩)⟩) hw1 hw2
        exact (wk27  (Val.mk r1.Char r1.Shape Data1) ([(Am.Place.mk false r6), (Am.Place.mk true (Val.mk false ([]) ([])))])  v4 v9 v19 kk_1 hx14).mono fun res H2 ⟨v20, v21, qq_1, qq_2⟩ => ⟨v20, v21, qq_1, kk_2 _ _ (List.forall_mem_cons.mpr ⟨⟨_, _, _, _, rfl, fun _ _ _ _ h => h⟩, (List.forall_mem_cons.mpr ⟨⟨_, _, _, _, rfl, fun _ _ _ _ h => h⟩, (fun _ h => by cases h)⟩)⟩) qq_2⟩) (fun wm' res H hw' hp => ?_)
       obtain ⟨v20, v21, hres, hI⟩ := hp
       replace hres := hres.symm; subst hres
       replace hS : S wm 228 _ H ((167, .tuple #[.agg #[.bool r7.Char, v20, v21], .int .i64 r8]) :: _) ([.own (rI .i64) v20 r7.Shape, .own (rI .i64) v21 r7.Data] ++ [.lit rPlace v19 ([(Am.Place.mk false r6), (Am.Place.mk true (Val.mk false ([]) ([])))]), .fz (rI .i64) (.slice none 0 0) ([]), .fz (rI .i64) v17 r6.Shape, .fz (rI .i64) v18 r6.Data, .box b1 [.bool r1.Char, v4, v9], .box b2 [.bool r2.Char, v7, v12], .box b3 [.bool r3.Char, v15, v16], .own (rI .i64) v4 r1.Shape, .own (rI .i64) v9 Data1, .own (rI .i64) v7 r2.Shape, .own (rI .i64) v12 Data2, .own (rI .i64) v15 r3.Shape, .own (rI .i64) v16 r3.Data]) Fr := (hS.put rfl _).withK hI
       clear hI hw'
       refine pp3 hS rfl rfl rfl rfl rfl rfl ?_; clear hS
       intro tm hS
       refine o_alloc hS (.inl rfl) rfl Fz25 (by decide) ?_; clear hS
       intro b4 tm H hS
       refine o_st (k := 0) hS (.inl rfl) rfl rfl rfl Fs25 rfl rfl (all_cons rfl (all_cons (hS.one (k := 1) rfl (.inr (.inl rfl))) (all_cons (hS.one (k := 2) rfl (.inr (.inl rfl))) all_nil))) rfl ?_; clear hS; try clear H
       intro H hS
       refine pp1 hS rfl rfl ?_; clear hS
       intro tm hS
       refine o_nil (hR _ _ ?_)
       clear hR R
       refine cr1 hS rfl rfl ?_; clear hS
       intro tm hS
       obtain ⟨k4, hw4, h17⟩ := bindS h17
       refine wpC.block ?_
       refine c_loop (I := fun (s : Int) tm H => match (generalizing := false) s with | j1 => S wm 228 tm H [(0, .string f1), (1, .string g1), (15, .int .i64 (IntKind.i64.wrap (Int.tmod rows1 6))), (16, .int .i64 (IntKind.i64.wrap (Int.tmod cols1 6))), (18, .pointer (some ⟨b1, 0, none⟩)), (19, .pointer (some ⟨b2, 0, none⟩)), (22, .pointer (some ⟨b3, 0, none⟩)), (24, .int .i64 i3), (25, .pointer (some ⟨b4, 0, none⟩)), (27, .int .i64 j1)] [.box b1 [.bool r1.Char, v4, v9], .box b2 [.bool r2.Char, v7, v12], .box b3 [.bool r3.Char, v15, v16], .box b4 [.bool r7.Char, v20, v21], .own (rI .i64) v4 r1.Shape, .own (rI .i64) v9 Data1, .own (rI .i64) v7 r2.Shape, .own (rI .i64) v12 Data2, .own (rI .i64) v15 r3.Shape, .own (rI .i64) v16 r3.Data, .own (rI .i64) v20 r7.Shape, .own (rI .i64) v21 r7.Data] Fr) hw4 (by change S wm 228 _ _ _ _ Fr; exact hS.keep (k10 rfl rfl rfl rfl rfl rfl rfl rfl rfl rfl) (fun hI => (hI.pick [7, 8, 9, 0, 10, 11, 12, 13, 14, 15, 1, 2] rfl))) ?_
       clear hS
       intro j1 tm H c11 hS h19 hq19
       change S wm 228 tm H [(0, .string f1), (1, .string g1), (15, .int .i64 (IntKind.i64.wrap (Int.tmod rows1 6))), (16, .int .i64 (IntKind.i64.wrap (Int.tmod cols1 6))), (18, .pointer (some ⟨b1, 0, none⟩)), (19, .pointer (some ⟨b2, 0, none⟩)), (22, .pointer (some ⟨b3, 0, none⟩)), (24, .int .i64 i3), (25, .pointer (some ⟨b4, 0, none⟩)), (27, .int .i64 j1)] [.box b1 [.bool r1.Char, v4, v9], .box b2 [.bool r2.Char, v7, v12], .box b3 [.bool r3.Char, v15, v16], .box b4 [.bool r7.Char, v20, v21], .own (rI .i64) v4 r1.Shape, .own (rI .i64) v9 Data1, .own (rI .i64) v7 r2.Shape, .own (rI .i64) v12 Data2, .own (rI .i64) v15 r3.Shape, .own (rI .i64) v16 r3.Data, .own (rI .i64) v20 r7.Shape, .own (rI .i64) v21 r7.Data] Fr at hS
       refine c_seqS ?_
       refine cr3 hS rfl rfl rfl rfl rfl rfl ?_; clear hS
       intro tm hS
       refine c_cond hS rfl (fun hc => ?_) (fun hc => ?_)
       ·replace h19 := iteT hc h19
        refine wpC.skip ?_
        refine c_seqS ?_
        refine wpC.block ?_
        refine c_reg fun R hR => ?_
        refine o_ldA (k := 1) hS (.inl rfl) rfl rfl rfl (.inl rfl) Fu25 rfl Fs25 rfl ?_; clear hS
        intro tm hS
        refine o_build hS (.inl rfl) rfl Fb53 rfl (.cons rfl .nil) rfl ?_; clear hS
        intro tm hS
        refine pp2 hS rfl rfl rfl rfl ?_; clear hS
        intro tm hS
        obtain ⟨r9, hx15, h19⟩ := bindS h19
        refine o_call hS (.inl rfl) rfl (fun wm' hw1 hw2 => wk20  (IntKind.i64.wrap (j1 + 1))   (hS.sel hw2) hx15) (fun wm' res H hw' hp => ?_)
        obtain ⟨v22, v23, hres, hI⟩ := hp
        replace hres := hres.symm; subst hres
        replace hS : S wm 228 _ H ((180, .agg #[.bool r9.Char, v22, v23]) :: _) ([.own (rI .i64) v22 r9.Shape, .own (rI .i64) v23 r9.Data] ++ _) Fr := hS.after rfl hw' hI
        clear hI hw'
        refine o_build hS (.inl rfl) rfl Fb53 rfl (.cons rfl .nil) rfl ?_; clear hS
        intro tm hS
        replace hS := hS.nilFz (rI .i64)
        replace hS := hS.frz (k := 1) rfl
        replace hS := hS.frz (k := 2) rfl
        refine o_lit (r := rPlace) (l := [(Am.Place.mk true (Val.mk false ([]) ([]))), (Am.Place.mk false r9)]) hS (.inl rfl) rfl Fl51 rfl rfl rfl (.cons rfl (.cons rfl .nil)) rfl rfl (ri_4 (rd_Place (z := (Am.Place.mk true (Val.mk false ([]) ([])))) ⟨0, rfl⟩ ⟨0, rfl⟩) (ri_4 (rd_Place (z := (Am.Place.mk false r9)) ⟨1, rfl⟩ ⟨2, rfl⟩) ri_nil)) rfl ?_; clear hS
        intro v24 tm H hS
        obtain ⟨⟨r10, r11⟩, hx16, h19⟩ := bindS h19
        refine o_call (Pc := fun _ res H => ∃ v25 v26, res = .tuple #[.agg #[.bool r10.Char, v25, v26], .int .i64 r11] ∧ Kn wm H ([.own (rI .i64) v25 r10.Shape, .own (rI .i64) v26 r10.Data] ++ [.lit rPlace v24 ([(Am.Place.mk true (Val.mk false ([]) ([]))), (Am.Place.mk false r9)]), .fz (rI .i64) (.slice none 0 0) ([]), .fz (rI .i64) v22 r9.Shape, .fz (rI .i64) v23 r9.Data, .box b1 [.bool r1.Char, v4, v9], .box b2 [.bool r2.Char, v7, v12], .box b3 [.bool r3.Char, v15, v16], .box b4 [.bool r7.Char, v20, v21], .own (rI .i64) v4 r1.Shape, .own (rI .i64) v9 Data1, .own (rI .i64) v7 r2.Shape, .own (rI .i64) v12 Data2, .own (rI .i64) v15 r3.Shape, .own (rI .i64) v16 r3.Data, .own (rI .i64) v20 r7.Shape, .own (rI .i64) v21 r7.Data]) Fr) hS (.inl rfl) rfl (fun wm' hw1 hw2 => by
         obtain ⟨F2, kk_1, kk_2⟩ := hS.inv.lendR (La := [.fz (rI .i64) v7 r2.Shape, .fz (rI .i64) v12 Data2, .fz rPlace v24 ([(Am.Place.mk true (Val.mk false ([]) ([]))), (Am.Place.mk false r9)])]) (List.forall_mem_cons.mpr ⟨(.inr ⟨_, _, _, _, rfl, .inl (List.mem_of_getElem? (i := 10) rfl)⟩), (List.forall_mem_cons.mpr ⟨(.inr ⟨_, _, _, _, rfl, .inl (List.mem_of_getElem? (i := 11) rfl)⟩), (List.forall_mem_cons.mpr ⟨(.inr ⟨_, _, _, _, rfl, .inr (List.mem_of_getElem? (i := 0) rfl)⟩), (fun _ h => by cases h)⟩)⟩)⟩) hw1 hw2
         exact (wk27  (Val.mk r2.Char r2.Shape Data2) ([(Am.Place.mk true (Val.mk false ([]) ([]))), (Am.Place.mk false r9)])  v7 v12 v24 kk_1 hx16).mono fun res H2 ⟨v25, v26, qq_1, qq_2⟩ => ⟨v25, v26, qq_1, kk_2 _ _ (List.forall_mem_cons.mpr ⟨⟨_, _, _, _, rfl, fun _ _ _ _ h => h⟩, (List.forall_mem_cons.mpr ⟨⟨_, _, _, _, rfl, fun _ _ _ _ h => h⟩, (fun _ h => by cases h)⟩)⟩) qq_2⟩) (fun wm' res H hw' hp => ?_)
        obtain ⟨v25, v26, hres, hI⟩ := hp
        replace hres := hres.symm; subst hres
        replace hS : S wm 228 _ H ((183, .tuple #[.agg #[.bool r10.Char, v25, v26], .int .i64 r11]) :: _) ([.own (rI .i64) v25 r10.Shape, .own (rI .i64) v26 r10.Data] ++ [.lit rPlace v24 ([(Am.Place.mk true (Val.mk false ([]) ([]))), (Am.Place.mk false r9)]), .fz (rI .i64) (.slice none 0 0) ([]), .fz (rI .i64) v22 r9.Shape, .fz (rI .i64) v23 r9.Data, .box b1 [.bool r1.Char, v4, v9], .box b2 [.bool r2.Char, v7, v12], .box b3 [.bool r3.Char, v15, v16], .box b4 [.bool r7.Char, v20, v21], .own (rI .i64) v4 r1.Shape, .own (rI .i64) v9 Data1, .own (rI .i64) v7 r2.Shape, .own (rI .i64) v12 Data2, .own (rI .i64) v15 r3.Shape, .own (rI .i64) v16 r3.Data, .own (rI .i64) v20 r7.Shape, .own (rI .i64) v21 r7.Data]) Fr := (hS.put rfl _).withK hI
        clear hI hw'
        refine pp3 hS rfl rfl rfl rfl rfl rfl ?_; clear hS
        intro tm hS
        refine o_alloc hS (.inl rfl) rfl Fz25 (by decide) ?_; clear hS
        intro b5 tm H hS
        refine o_st (k := 0) hS (.inl rfl) rfl rfl rfl Fs25 rfl rfl (all_cons rfl (all_cons (hS.one (k := 1) rfl (.inr (.inl rfl))) (all_cons (hS.one (k := 2) rfl (.inr (.inl rfl))) all_nil))) rfl ?_; clear hS; try clear H
        intro H hS
        refine pp1 hS rfl rfl ?_; clear hS
        intro tm hS
        refine o_nil (hR _ _ ?_)
        clear hR R
        refine c_reg fun R hR => ?_
        refine pp1 hS rfl rfl ?_; clear hS
        intro tm hS
        refine o_ldA (k := 10) hS (.inl rfl) rfl rfl rfl (.inl rfl) Fu25 rfl Fs25 rfl ?_; clear hS
        intro tm hS
        refine o_ldA (k := 0) hS (.inl rfl) rfl rfl rfl (.inl rfl) Fu25 rfl Fs25 rfl ?_; clear hS
        intro tm hS
        obtain ⟨⟨r12, r13⟩, hx17, h19⟩ := bindS h19
        refine o_call (Pc := fun _ res H => ∃ v27 v28, res = .tuple #[.agg #[.bool r12.Char, v27, v28], .int .i64 r13] ∧ Kn wm H ([.own (rI .i64) v27 r12.Shape, .own (rI .i64) v28 r12.Data] ++ [.box b5 [.bool r10.Char, v25, v26], .own (rI .i64) v25 r10.Shape, .own (rI .i64) v26 r10.Data, .lit rPlace v24 ([(Am.Place.mk true (Val.mk false ([]) ([]))), (Am.Place.mk false r9)]), .fz (rI .i64) (.slice none 0 0) ([]), .fz (rI .i64) v22 r9.Shape, .fz (rI .i64) v23 r9.Data, .box b1 [.bool r1.Char, v4, v9], .box b2 [.bool r2.Char, v7, v12], .box b3 [.bool r3.Char, v15, v16], .box b4 [.bool r7.Char, v20, v21], .own (rI .i64) v4 r1.Shape, .own (rI .i64) v9 Data1, .own (rI .i64) v7 r2.Shape, .own (rI .i64) v12 Data2, .own (rI .i64) v15 r3.Shape, .own (rI .i64) v16 r3.Data, .own (rI .i64) v20 r7.Shape, .own (rI .i64) v21 r7.Data]) Fr) hS (.inl rfl) rfl (fun wm' hw1 hw2 => by
         obtain ⟨F2, kk_1, kk_2⟩ := hS.inv.lendR (La := [.fz (rI .i64) v20 r7.Shape, .fz (rI .i64) v21 r7.Data, .fz (rI .i64) v25 r10.Shape, .fz (rI .i64) v26 r10.Data]) (List.forall_mem_cons.mpr ⟨(.inr ⟨_, _, _, _, rfl, .inl (List.mem_of_getElem? (i := 17) rfl)⟩), (List.forall_mem_cons.mpr ⟨(.inr ⟨_, _, _, _, rfl, .inl (List.mem_of_getElem? (i := 18) rfl)⟩), (List.forall_mem_cons.mpr ⟨(.inr ⟨_, _, _, _, rfl, .inl (List.mem_of_getElem? (i := 1) rfl)⟩), (List.forall_mem_cons.mpr ⟨(.inr ⟨_, _, _, _, rfl, .inl (List.mem_of_getElem? (i := 2) rfl)⟩), (fun _ h => by cases h)⟩)⟩)⟩)⟩) hw1 hw2
         exact (wk28 ho100 g1 r7 r10  v20 v21 v25 v26 kk_1 hx17).mono fun res H2 ⟨v27, v28, qq_1, qq_2⟩ => ⟨v27, v28, qq_1, kk_2 _ _ (List.forall_mem_cons.mpr ⟨⟨_, _, _, _, rfl, fun _ _ _ _ h => h⟩, (List.forall_mem_cons.mpr ⟨⟨_, _, _, _, rfl, fun _ _ _ _ h => h⟩, (fun _ h => by cases h)⟩)⟩) qq_2⟩) (fun wm' res H hw' hp => ?_)
        obtain ⟨v27, v28, hres, hI⟩ := hp
        replace hres := hres.symm; subst hres
        replace hS : S wm 228 _ H ((190, .tuple #[.agg #[.bool r12.Char, v27, v28], .int .i64 r13]) :: _) ([.own (rI .i64) v27 r12.Shape, .own (rI .i64) v28 r12.Data] ++ [.box b5 [.bool r10.Char, v25, v26], .own (rI .i64) v25 r10.Shape, .own (rI .i64) v26 r10.Data, .lit rPlace v24 ([(Am.Place.mk true (Val.mk false ([]) ([]))), (Am.Place.mk false r9)]), .fz (rI .i64) (.slice none 0 0) ([]), .fz (rI .i64) v22 r9.Shape, .fz (rI .i64) v23 r9.Data, .box b1 [.bool r1.Char, v4, v9], .box b2 [.bool r2.Char, v7, v12], .box b3 [.bool r3.Char, v15, v16], .box b4 [.bool r7.Char, v20, v21], .own (rI .i64) v4 r1.Shape, .own (rI .i64) v9 Data1, .own (rI .i64) v7 r2.Shape, .own (rI .i64) v12 Data2, .own (rI .i64) v15 r3.Shape, .own (rI .i64) v16 r3.Data, .own (rI .i64) v20 r7.Shape, .own (rI .i64) v21 r7.Data]) Fr := (hS.put rfl _).withK hI
        clear hI hw'
        refine pp3 hS rfl rfl rfl rfl rfl rfl ?_; clear hS
        intro tm hS
        refine o_alloc hS (.inl rfl) rfl Fz25 (by decide) ?_; clear hS
        intro b6 tm H hS
        refine o_st (k := 0) hS (.inl rfl) rfl rfl rfl Fs25 rfl rfl (all_cons rfl (all_cons (hS.one (k := 1) rfl (.inr (.inl rfl))) (all_cons (hS.one (k := 2) rfl (.inr (.inl rfl))) all_nil))) rfl ?_; clear hS; try clear H
        intro H hS
        refine pp1 hS rfl rfl ?_; clear hS
        intro tm hS
        refine o_nil (hR _ _ ?_)
        clear hR R
        refine c_reg fun R hR => ?_
        refine pp1 hS rfl rfl ?_; clear hS
        intro tm hS
        refine o_ldA (k := 0) hS (.inl rfl) rfl rfl rfl (.inl rfl) Fu25 rfl Fs25 rfl ?_; clear hS
        intro tm hS
        obtain ⟨⟨r14, r15⟩, hx18, h19⟩ := bindS h19
        refine o_call (Pc := fun _ res H => ∃ v29 v30, res = .tuple #[.agg #[.bool r14.Char, v29, v30], .int .i64 r15] ∧ Kn wm H ([.own (rI .i64) v29 r14.Shape, .own (rI .i64) v30 r14.Data] ++ [.box b6 [.bool r12.Char, v27, v28], .own (rI .i64) v27 r12.Shape, .own (rI .i64) v28 r12.Data, .box b5 [.bool r10.Char, v25, v26], .own (rI .i64) v25 r10.Shape, .own (rI .i64) v26 r10.Data, .lit rPlace v24 ([(Am.Place.mk true (Val.mk false ([]) ([]))), (Am.Place.mk false r9)]), .fz (rI .i64) (.slice none 0 0) ([]), .fz (rI .i64) v22 r9.Shape, .fz (rI .i64) v23 r9.Data, .box b1 [.bool r1.Char, v4, v9], .box b2 [.bool r2.Char, v7, v12], .box b3 [.bool r3.Char, v15, v16], .box b4 [.bool r7.Char, v20, v21], .own (rI .i64) v4 r1.Shape, .own (rI .i64) v9 Data1, .own (rI .i64) v7 r2.Shape, .own (rI .i64) v12 Data2, .own (rI .i64) v15 r3.Shape, .own (rI .i64) v16 r3.Data, .own (rI .i64) v20 r7.Shape, .own (rI .i64) v21 r7.Data]) Fr) hS (.inl rfl) rfl (fun wm' hw1 hw2 => by
         obtain ⟨F2, kk_1, kk_2⟩ := hS.inv.lendR (La := [.fz (rI .i64) v27 r12.Shape, .fz (rI .i64) v28 r12.Data]) (List.forall_mem_cons.mpr ⟨(.inr ⟨_, _, _, _, rfl, .inl (List.mem_of_getElem? (i := 1) rfl)⟩), (List.forall_mem_cons.mpr ⟨(.inr ⟨_, _, _, _, rfl, .inl (List.mem_of_getElem? (i := 2) rfl)⟩), (fun _ h => by cases h)⟩)⟩) hw1 hw2
         exact (wk11 ho100 f1 r12 (-1)  v27 v28 kk_1 hx18).mono fun res H2 ⟨v29, v30, qq_1, qq_2⟩ => ⟨v29, v30, qq_1, kk_2 _ _ (List.forall_mem_cons.mpr ⟨⟨_, _, _, _, rfl, fun _ _ _ _ h => h⟩, (List.forall_mem_cons.mpr ⟨⟨_, _, _, _, rfl, fun _ _ _ _ h => h⟩, (fun _ h => by cases h)⟩)⟩) qq_2⟩) (fun wm' res H hw' hp => ?_)
        obtain ⟨v29, v30, hres, hI⟩ := hp
        replace hres := hres.symm; subst hres
        replace hS : S wm 228 _ H ((196, .tuple #[.agg #[.bool r14.Char, v29, v30], .int .i64 r15]) :: _) ([.own (rI .i64) v29 r14.Shape, .own (rI .i64) v30 r14.Data] ++ [.box b6 [.bool r12.Char, v27, v28], .own (rI .i64) v27 r12.Shape, .own (rI .i64) v28 r12.Data, .box b5 [.bool r10.Char, v25, v26], .own (rI .i64) v25 r10.Shape, .own (rI .i64) v26 r10.Data, .lit rPlace v24 ([(Am.Place.mk true (Val.mk false ([]) ([]))), (Am.Place.mk false r9)]), .fz (rI .i64) (.slice none 0 0) ([]), .fz (rI .i64) v22 r9.Shape, .fz (rI .i64) v23 r9.Data, .box b1 [.bool r1.Char, v4, v9], .box b2 [.bool r2.Char, v7, v12], .box b3 [.bool r3.Char, v15, v16], .box b4 [.bool r7.Char, v20, v21], .own (rI .i64) v4 r1.Shape, .own (rI .i64) v9 Data1, .own (rI .i64) v7 r2.Shape, .own (rI .i64) v12 Data2, .own (rI .i64) v15 r3.Shape, .own (rI .i64) v16 r3.Data, .own (rI .i64) v20 r7.Shape, .own (rI .i64) v21 r7.Data]) Fr := (hS.put rfl _).withK hI
        clear hI hw'
        refine pp3 hS rfl rfl rfl rfl rfl rfl ?_; clear hS
        intro tm hS
        refine o_alloc hS (.inl rfl) rfl Fz25 (by decide) ?_; clear hS
        intro b7 tm H hS
        refine o_st (k := 0) hS (.inl rfl) rfl rfl rfl Fs25 rfl rfl (all_cons rfl (all_cons (hS.one (k := 1) rfl (.inr (.inl rfl))) (all_cons (hS.one (k := 2) rfl (.inr (.inl rfl))) all_nil))) rfl ?_; clear hS; try clear H
        intro H hS
        refine pp1 hS rfl rfl ?_; clear hS
        intro tm hS
        refine o_nil (hR _ _ ?_)
        clear hR R
        refine c_reg fun R hR => ?_
        refine pp3 hS rfl rfl rfl rfl rfl rfl ?_; clear hS
        intro tm hS
        obtain ⟨c12, hc8⟩ : ∃ x : Bool, x = ((r13 != 0) || (r15 != 0)) := ⟨_, rfl⟩
        refine o_cutN 3 (J := fun tm H => S wm 228 tm H [(204, .bool c12), (0, .string f1), (1, .string g1), (15, .int .i64 (IntKind.i64.wrap (Int.tmod rows1 6))), (16, .int .i64 (IntKind.i64.wrap (Int.tmod cols1 6))), (18, .pointer (some ⟨b1, 0, none⟩)), (19, .pointer (some ⟨b2, 0, none⟩)), (22, .pointer (some ⟨b3, 0, none⟩)), (24, .int .i64 i3), (25, .pointer (some ⟨b4, 0, none⟩)), (27, .int .i64 j1), (32, .pointer (some ⟨b7, 0, none⟩))] [.box b7 [.bool r14.Char, v29, v30], .own (rI .i64) v29 r14.Shape, .own (rI .i64) v30 r14.Data, .box b1 [.bool r1.Char, v4, v9], .box b2 [.bool r2.Char, v7, v12], .box b3 [.bool r3.Char, v15, v16], .box b4 [.bool r7.Char, v20, v21], .own (rI .i64) v4 r1.Shape, .own (rI .i64) v9 Data1, .own (rI .i64) v7 r2.Shape, .own (rI .i64) v12 Data2, .own (rI .i64) v15 r3.Shape, .own (rI .i64) v16 r3.Data, .own (rI .i64) v20 r7.Shape, .own (rI .i64) v21 r7.Data] Fr) ?_ ?_
        ·rcases Bool.eq_false_or_eq_true (r13 != 0) with hg8 | hg8
         ·refine o_skip hS rfl rfl rfl hg8 ?_; clear hS
          intro tm hS
          refine o_skip hS rfl rfl rfl hg8 ?_; clear hS
          intro tm hS
          refine o_pickT hS (.inl rfl) rfl rfl hg8 rfl ?_; clear hS
          intro tm hS
          have hc8 : c12 = true := hc8.trans (by rw [hg8]; first | rfl | simp)
          subst hc8
          exact o_nil (hS.keep (k12 rfl rfl rfl rfl rfl rfl rfl rfl rfl rfl rfl rfl) (fun hI => (hI.sub (sc (sc (sc (sd (sd (sd (sd (sd (sd (sd (sd (sd (sd (sc (sc (sc (sc (sc (sc (sc (sc (sc (sc (sc (sc sn))))))))))))))))))))))))))))
         ·refine o_pure hS (.inr ⟨_, _, _, _, rfl, rfl, rfl, hg8⟩) rfl rfl ?_; clear hS
          intro tm hS
          refine o_pure hS (.inr ⟨_, _, _, _, rfl, rfl, rfl, hg8⟩) rfl rfl ?_; clear hS
          intro tm hS
          refine o_pickF hS (.inl rfl) rfl rfl hg8 rfl ?_; clear hS
          intro tm hS
          have hc8 : c12 = (r15 != 0) := hc8.trans (by rw [hg8]; first | rfl | simp)
          subst hc8
          exact o_nil (hS.keep (k12 rfl rfl rfl rfl rfl rfl rfl rfl rfl rfl rfl rfl) (fun hI => (hI.sub (sc (sc (sc (sd (sd (sd (sd (sd (sd (sd (sd (sd (sd (sc (sc (sc (sc (sc (sc (sc (sc (sc (sc (sc (sc sn))))))))))))))))))))))))))))
        intro tm H hS
        subst hc8
        refine pp1 hS rfl rfl ?_; clear hS
        intro tm hS
        obtain ⟨c13, hc9⟩ : ∃ x : Bool, x = (((r13 != 0) || (r15 != 0)) || ((r14.Data.length : Int) != 1)) := ⟨_, rfl⟩
        refine o_cutN 5 (J := fun tm H => S wm 228 tm H [(210, .bool c13), (0, .string f1), (1, .string g1), (15, .int .i64 (IntKind.i64.wrap (Int.tmod rows1 6))), (16, .int .i64 (IntKind.i64.wrap (Int.tmod cols1 6))), (18, .pointer (some ⟨b1, 0, none⟩)), (19, .pointer (some ⟨b2, 0, none⟩)), (22, .pointer (some ⟨b3, 0, none⟩)), (24, .int .i64 i3), (25, .pointer (some ⟨b4, 0, none⟩)), (27, .int .i64 j1), (32, .pointer (some ⟨b7, 0, none⟩))] [.box b7 [.bool r14.Char, v29, v30], .own (rI .i64) v29 r14.Shape, .own (rI .i64) v30 r14.Data, .box b1 [.bool r1.Char, v4, v9], .box b2 [.bool r2.Char, v7, v12], .box b3 [.bool r3.Char, v15, v16], .box b4 [.bool r7.Char, v20, v21], .own (rI .i64) v4 r1.Shape, .own (rI .i64) v9 Data1, .own (rI .i64) v7 r2.Shape, .own (rI .i64) v12 Data2, .own (rI .i64) v15 r3.Shape, .own (rI .i64) v16 r3.Data, .own (rI .i64) v20 r7.Shape, .own (rI .i64) v21 r7.Data] Fr) ?_ ?_
        ·rcases Bool.eq_false_or_eq_true ((r13 != 0) || (r15 != 0)) with hg9 | hg9
         ·refine o_skip hS rfl rfl rfl hg9 ?_; clear hS
          intro tm hS
          refine o_skip hS rfl rfl rfl hg9 ?_; clear hS
          intro tm hS
          refine o_skip hS rfl rfl rfl hg9 ?_; clear hS
          intro tm hS
          refine o_skip hS rfl rfl rfl hg9 ?_; clear hS
          intro tm hS
          refine o_pickT hS (.inl rfl) rfl rfl hg9 rfl ?_; clear hS
          intro tm hS
          have hc9 : c13 = true := hc9.trans (by rw [hg9]; first | rfl | simp)
          subst hc9
          exact o_nil (hS.keep (k12 rfl rfl rfl rfl rfl rfl rfl rfl rfl rfl rfl rfl) (fun hI => (hI.sub (sc (sc (sc (sc (sc (sc (sc (sc (sc (sc (sc (sc (sc (sc (sc sn))))))))))))))))))
         ·refine o_pure hS (.inr ⟨_, _, _, _, rfl, rfl, rfl, hg9⟩) rfl rfl ?_; clear hS
          intro tm hS
          refine o_ld1 (k := 0) hS (.inr ⟨_, _, _, _, rfl, rfl, rfl, hg9⟩) rfl rfl rfl (.inl rfl) Fu23 rfl rfl ?_; clear hS
          intro tm hS
          refine o_len (k := 2) (r := (rI .i64)) hS (.inr ⟨_, _, _, _, rfl, rfl, rfl, hg9⟩) rfl rfl rfl (.inr (.inl rfl)) Fu23 rfl ?_; clear hS
          intro tm hS
          refine o_pure hS (.inr ⟨_, _, _, _, rfl, rfl, rfl, hg9⟩) rfl rfl ?_; clear hS
          intro tm hS
          refine o_pickF hS (.inl rfl) rfl rfl hg9 rfl ?_; clear hS
          intro tm hS
          have hc9 : c13 = ((r14.Data.length : Int) != 1) := hc9.trans (by rw [hg9]; first | rfl | simp)
          subst hc9
          exact o_nil (hS.keep (k12 rfl rfl rfl rfl rfl rfl rfl rfl rfl rfl rfl rfl) (fun hI => (hI.sub (sc (sc (sc (sc (sc (sc (sc (sc (sc (sc (sc (sc (sc (sc (sc sn))))))))))))))))))
        intro tm H hS
        subst hc9
        refine pp1 hS rfl rfl ?_; clear hS
        intro tm hS
        obtain ⟨c14, hc10, h19⟩ := bindS h19
        refine o_cutN 15 (J := fun tm H => S wm 228 tm H [(226, .bool c14), (0, .string f1), (1, .string g1), (15, .int .i64 (IntKind.i64.wrap (Int.tmod rows1 6))), (16, .int .i64 (IntKind.i64.wrap (Int.tmod cols1 6))), (18, .pointer (some ⟨b1, 0, none⟩)), (19, .pointer (some ⟨b2, 0, none⟩)), (22, .pointer (some ⟨b3, 0, none⟩)), (24, .int .i64 i3), (25, .pointer (some ⟨b4, 0, none⟩)), (27, .int .i64 j1)] [.box b1 [.bool r1.Char, v4, v9], .box b2 [.bool r2.Char, v7, v12], .box b3 [.bool r3.Char, v15, v16], .box b4 [.bool r7.Char, v20, v21], .own (rI .i64) v4 r1.Shape, .own (rI .i64) v9 Data1, .own (rI .i64) v7 r2.Shape, .own (rI .i64) v12 Data2, .own (rI .i64) v15 r3.Shape, .own (rI .i64) v16 r3.Data, .own (rI .i64) v20 r7.Shape, .own (rI .i64) v21 r7.Data] Fr) ?_ ?_
        ·rcases Bool.eq_false_or_eq_true (((r13 != 0) || (r15 != 0)) || ((r14.Data.length : Int) != 1)) with hg10 | hg10
         ·replace hc10 := iteT hg10 hc10
          refine o_skip hS rfl rfl rfl hg10 ?_; clear hS
          intro tm hS
          refine o_skip hS rfl rfl rfl hg10 ?_; clear hS
          intro tm hS
          refine o_skip hS rfl rfl rfl hg10 ?_; clear hS
          intro tm hS
          refine o_skip hS rfl rfl rfl hg10 ?_; clear hS
          intro tm hS
          refine o_skip hS rfl rfl rfl hg10 ?_; clear hS
          intro tm hS
          refine o_skip hS rfl rfl rfl hg10 ?_; clear hS
          intro tm hS
          refine o_skip hS rfl rfl rfl hg10 ?_; clear hS
          intro tm hS
          refine o_skip hS rfl rfl rfl hg10 ?_; clear hS
          intro tm hS
          refine o_skip hS rfl rfl rfl hg10 ?_; clear hS
          intro tm hS
          refine o_skip hS rfl rfl rfl hg10 ?_; clear hS
          intro tm hS
          refine o_skip hS rfl rfl rfl hg10 ?_; clear hS
          intro tm hS
          refine o_skip hS rfl rfl rfl hg10 ?_; clear hS
          intro tm hS
          refine o_skip hS rfl rfl rfl hg10 ?_; clear hS
          intro tm hS
          refine o_skip hS rfl rfl rfl hg10 ?_; clear hS
          intro tm hS
          refine o_pickT hS (.inl rfl) rfl rfl hg10 rfl ?_; clear hS
          intro tm hS
          obtain rfl := Option.some.inj hc10
          exact o_nil (hS.keep (k11 rfl rfl rfl rfl rfl rfl rfl rfl rfl rfl rfl) (fun hI => (hI.sub (sd (sd (sd (sc (sc (sc (sc (sc (sc (sc (sc (sc (sc (sc (sc sn))))))))))))))))))
         ·replace hc10 := iteF hg10 hc10
          refine o_pure hS (.inr ⟨_, _, _, _, rfl, rfl, rfl, hg10⟩) rfl rfl ?_; clear hS
          intro tm hS
          refine o_ld1 (k := 0) hS (.inr ⟨_, _, _, _, rfl, rfl, rfl, hg10⟩) rfl rfl rfl (.inl rfl) Fu23 rfl rfl ?_; clear hS
          intro tm hS
          obtain ⟨y6, hx19, hc10⟩ := bindS hc10
          refine o_ixA (k := 2) (r := (rI .i64)) hS (.inr ⟨_, _, _, _, rfl, rfl, rfl, hg10⟩) rfl rfl rfl rfl (.inr (.inl rfl)) Fu23 Fs2 hx19 ?_; clear hS
          intro tm hS
          refine o_ldF (r := (rI .i64)) (k := 2) hS (.inr ⟨_, _, _, _, rfl, rfl, rfl, hg10⟩) rfl rfl rfl (.inr (.inl rfl)) hx19 Fu2 rfl (flat_I _) rfl ?_; clear hS
          intro tm hS
          refine o_pure hS (.inr ⟨_, _, _, _, rfl, rfl, rfl, hg10⟩) rfl rfl ?_; clear hS
          intro tm hS
          refine o_ld1 (k := 5) hS (.inr ⟨_, _, _, _, rfl, rfl, rfl, hg10⟩) rfl rfl rfl (.inl rfl) Fu23 rfl rfl ?_; clear hS
          intro tm hS
          refine o_pure hS (.inr ⟨_, _, _, _, rfl, rfl, rfl, hg10⟩) rfl rfl ?_; clear hS
          intro tm hS
          refine o_pure hS (.inr ⟨_, _, _, _, rfl, rfl, rfl, hg10⟩) rfl rfl ?_; clear hS
          intro tm hS
          refine o_pure hS (.inr ⟨_, _, _, _, rfl, rfl, rfl, hg10⟩) rfl rfl ?_; clear hS
          intro tm hS
          refine o_pure hS (.inr ⟨_, _, _, _, rfl, rfl, rfl, hg10⟩) rfl rfl ?_; clear hS
          intro tm hS
          refine o_pure hS (.inr ⟨_, _, _, _, rfl, rfl, rfl, hg10⟩) rfl rfl ?_; clear hS
          intro tm hS
          obtain ⟨y7, hx20, hc10⟩ := bindS hc10
          refine o_ixA (k := 12) (r := (rI .i64)) hS (.inr ⟨_, _, _, _, rfl, rfl, rfl, hg10⟩) rfl rfl rfl rfl (.inr (.inl rfl)) Fu23 Fs2 hx20 ?_; clear hS
          intro tm hS
          refine o_ldF (r := (rI .i64)) (k := 12) hS (.inr ⟨_, _, _, _, rfl, rfl, rfl, hg10⟩) rfl rfl rfl (.inr (.inl rfl)) hx20 Fu2 rfl (flat_I _) rfl ?_; clear hS
          intro tm hS
          refine o_pure hS (.inr ⟨_, _, _, _, rfl, rfl, rfl, hg10⟩) rfl rfl ?_; clear hS
          intro tm hS
          refine o_pickF hS (.inl rfl) rfl rfl hg10 rfl ?_; clear hS
          intro tm hS
          obtain rfl := Option.some.inj hc10
          exact o_nil (hS.keep (k11 rfl rfl rfl rfl rfl rfl rfl rfl rfl rfl rfl) (fun hI => (hI.sub (sd (sd (sd (sc (sc (sc (sc (sc (sc (sc (sc (sc (sc (sc (sc sn))))))))))))))))))
        intro tm H hS
        refine o_nil (hR _ _ ?_)
        clear hR R
        refine c_cond hS rfl (fun hc => ?_) (fun hc => ?_)
        ·replace h19 := iteT hc h19
         refine cr1 hS rfl rfl ?_; clear hS
         intro tm hS
         refine wpC.ret ?_
         obtain rfl := Option.some.inj h19
         obtain rfl := hq19 _ rfl
         refine And.intro rfl ?_
         obtain rfl := leave h17
         obtain rfl := hq17 _ rfl
         refine And.intro rfl ?_
         obtain rfl := leave h0
         refine Exists.intro _ (And.intro (rs_tmp hS rfl rs_nil) ?_)
         have hI := hS.inv
         exact ⟨rfl, (hI.sub sn)⟩
        ·replace h19 := iteF hc h19
         refine wpC.skip ?_
         refine cs3 hS rfl rfl rfl rfl rfl rfl ?_; clear hS
         intro tm hS
         obtain rfl := Option.some.inj h19
         refine ⟨_, rfl, ?_⟩
         change S wm 228 _ _ _ _ Fr; exact hS.keep (k10 rfl rfl rfl rfl rfl rfl rfl rfl rfl rfl) (fun hI => (hI.sub (sc (sc (sc (sc (sc (sc (sc (sc (sc (sc (sc (sc sn))))))))))))))
       ·replace h19 := iteF hc h19
        refine wpC.exit ?_
        refine seqX ?_
        obtain rfl := Option.some.inj h19
        obtain rfl := hq19 _ rfl
        refine And.intro rfl (blk_eq ?_)
        replace h17 := joinN h17
        refine cs3 hS rfl rfl rfl rfl rfl rfl ?_; clear hS
        intro tm hS
        obtain rfl := Option.some.inj h17
        refine ⟨_, rfl, ?_⟩
        change S wm 228 _ _ _ _ Fr; exact hS.keep (k8 rfl rfl rfl rfl rfl rfl rfl rfl) (fun hI => (hI.sub (sc (sc (sc (sd (sc (sc (sc (sc (sc (sc sn))))))))))))
      ·replace h17 := iteF hc h17
       refine wpC.exit ?_
       refine seqX ?_
       obtain rfl := Option.some.inj h17
       obtain rfl := hq17 _ rfl
       refine And.intro rfl (blk_eq ?_)
       replace h0 := joinN h0
       refine c_reg fun R hR => ?_
       refine o_call hS (.inl rfl) rfl (fun wm' hw1 hw2 => wpF.told ho9 (Q := fun v H' => v = .bool true ∧ H' = H) ⟨rfl, rfl⟩) (fun wm' res H hw' hp => ?_)
       obtain ⟨rfl, rfl⟩ := hp
       replace hS := hS.put (d := 227) rfl (.bool true)
       clear hw'
       refine pp1 hS rfl rfl ?_; clear hS
       intro tm hS
       refine o_nil (hR _ _ ?_)
       clear hR R
       refine wpC.ret ?_
       obtain rfl := Option.some.inj h0
       refine Exists.intro _ (And.intro (rs_tmp hS rfl rs_nil) ?_)
       have hI := hS.inv
       exact ⟨rfl, (hI.sub sn)⟩
end Go.Proofs.Ytblgdjpeedgnoaa.overInner
