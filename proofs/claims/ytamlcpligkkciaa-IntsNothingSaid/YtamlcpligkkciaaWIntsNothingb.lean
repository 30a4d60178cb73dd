/- IntsNothing: walks of the code: the run of each function comes to what its plain function says. -/
import Derived.Test.YtamlcpligkkciaaWIntsNothinga
set_option linter.unusedVariables false
set_option linter.unusedSimpArgs false
set_option maxRecDepth 100000
open Go Go.Am Go.Proofs
namespace Go.Proofs.Ytamlcpligkkciaa.intsNothing
variable {ora : FuncId → Bool}
theorem wk10 {wm : Nat} {H : AHeap} {Fr : List Ent} (ho32 : ora 32 = true) (ho48 : ora 48 = false) (b1 : Int)   (hI : Kn wm H [] Fr) {r : Bool} (h0 : M.anamnesislaw01_IntsNothing b1 = some r) :
  wpF Try.prog ora wm 10 [.int .i64 b1] H (fun res H => res = .bool r ∧ Kn wm H [] Fr) := by
 unfold M.anamnesislaw01_IntsNothing at h0
 refine f_enter (n := 128) Try.func10 rfl (by simp) hI rfl rfl rfl fun tm hS => ?_
 clear hI
 refine c_reg fun R hR => ?_
 refine o_pure hS (.inl rfl) rfl rfl ?_; clear hS; try clear tm
 intro tm hS
 refine o_nil (hR _ _ ?_)
 clear hR R
 refine c_reg fun R hR => ?_
 refine o_lit (r := rS) (l := [str_43, str_45, str_195_151, str_195_183, str_42, str_226_140_136, str_226_140_138]) hS (.inl rfl) rfl Fl55 rfl rfl rfl (.cons rfl (.cons rfl (.cons rfl (.cons rfl (.cons rfl (.cons rfl (.cons rfl .nil))))))) rfl rfl (ri_1 (rd_flat fun _ => rfl) (ri_1 (rd_flat fun _ => rfl) (ri_1 (rd_flat fun _ => rfl) (ri_1 (rd_flat fun _ => rfl) (ri_1 (rd_flat fun _ => rfl) (ri_1 (rd_flat fun _ => rfl) (ri_1 (rd_flat fun _ => rfl) ri_nil))))))) rfl ?_; clear hS; try clear tm H
 intro v1 tm H hS
 refine o_pure hS (.inl rfl) rfl rfl ?_; clear hS; try clear tm
 intro tm hS
 refine o_nil (hR _ _ ?_)
 clear hR R
 refine c_seqS ?_
 refine c_reg fun R hR => ?_
 refine o_pure hS (.inl rfl) rfl rfl ?_; clear hS; try clear tm
 intro tm hS
 refine o_nil (hR _ _ ?_)
 clear hR R
 obtain ⟨k1, hw1, h0⟩ := bindS h0
 refine wpC.block ?_
 refine c_loop (I := fun (s : Int) tm H => match (generalizing := false) s with | i1 => S wm 128 tm H [(0, .int .i64 b1), (3, v1), (4, .int .i64 i1)] [.lit rS v1 ([str_43, str_45, str_195_151, str_195_183, str_42, str_226_140_136, str_226_140_138])] Fr) hw1 (by change S wm 128 _ _ _ _ Fr; exact hS.keep (ka_cons rfl (ka_cons rfl (ka_cons rfl ka_nil))) (fun hI => (hI.sub (sc sn)))) ?_
 clear hS
 intro i1 tm H c1 hS h1 hq1
 change S wm 128 tm H [(0, .int .i64 b1), (3, v1), (4, .int .i64 i1)] [.lit rS v1 ([str_43, str_45, str_195_151, str_195_183, str_42, str_226_140_136, str_226_140_138])] Fr at hS
 refine c_seqS ?_
 refine c_reg fun R hR => ?_
 refine o_pure hS (.inl rfl) rfl rfl ?_; clear hS; try clear tm
 intro tm hS
 refine o_pure hS (.inl rfl) rfl rfl ?_; clear hS; try clear tm
 intro tm hS
 refine o_len (k := 0) (r := rS) hS (.inl rfl) rfl rfl rfl (.inr (.inr rfl)) Fu55 rfl ?_; clear hS; try clear tm
 intro tm hS
 refine o_pure hS (.inl rfl) rfl rfl ?_; clear hS; try clear tm
 intro tm hS
 refine o_nil (hR _ _ ?_)
 clear hR R
 refine c_cond hS rfl (fun hc => ?_) (fun hc => ?_)
 ·replace h1 := iteT hc h1
  refine wpC.skip ?_
  refine c_seqS ?_
  refine wpC.block ?_
  refine c_reg fun R hR => ?_
  refine o_pure hS (.inl rfl) rfl rfl ?_; clear hS; try clear tm
  intro tm hS
  refine o_pure hS (.inl rfl) rfl rfl ?_; clear hS; try clear tm
  intro tm hS
  obtain ⟨y1, hx1, h1⟩ := bindS h1
  refine o_ixA (k := 0) (r := rS) hS (.inl rfl) rfl rfl rfl rfl (.inr (.inr rfl)) Fu55 Fs9 hx1 ?_; clear hS; try clear tm
  intro tm hS
  refine o_ldF (r := rS) (k := 0) hS (.inl rfl) rfl rfl rfl (.inr (.inr rfl)) hx1 Fu9 rfl flat_S rfl ?_; clear hS; try clear tm
  intro tm hS
  obtain ⟨⟨r1, r2⟩, hx2, h1⟩ := bindS h1
  refine o_call hS (.inl rfl) rfl (fun wm' hw1 hw2 => wk34  y1   (hS.sel hw2) hx2) (fun wm' res H hw' hp => ?_)
  obtain ⟨hres, hI⟩ := hp
  replace hres := hres.symm; subst hres
  replace hS : S wm 128 _ H ((30, .tuple #[.int .i64 r1, .int .i64 r2]) :: _) ([] ++ _) Fr := hS.after rfl hw' hI
  clear hI hw'
  refine o_pure hS (.inl rfl) rfl rfl ?_; clear hS; try clear tm
  intro tm hS
  refine o_pure hS (.inl rfl) rfl rfl ?_; clear hS; try clear tm
  intro tm hS
  refine o_pure hS (.inl rfl) rfl rfl ?_; clear hS; try clear tm
  intro tm hS
  refine o_pure hS (.inl rfl) rfl rfl ?_; clear hS; try clear tm
  intro tm hS
  refine o_pure hS (.inl rfl) rfl rfl ?_; clear hS; try clear tm
  intro tm hS
  refine o_nil (hR _ _ ?_)
  clear hR R
  refine c_reg fun R hR => ?_
  refine o_pure hS (.inl rfl) rfl rfl ?_; clear hS; try clear tm
  intro tm hS
  refine o_pure hS (.inl rfl) rfl rfl ?_; clear hS; try clear tm
  intro tm hS
  refine o_pure hS (.inl rfl) rfl rfl ?_; clear hS; try clear tm
  intro tm hS
  obtain ⟨c2, hc1, h1⟩ := bindS h1
  refine o_cutN 10 (J := fun tm H => S wm 128 tm H [(45, .bool c2), (0, .int .i64 b1), (3, v1), (4, .int .i64 i1)] [.lit rS v1 ([str_43, str_45, str_195_151, str_195_183, str_42, str_226_140_136, str_226_140_138])] Fr) ?_ ?_
  ·rcases Bool.eq_false_or_eq_true (r2 != 0) with hg1 | hg1
   ·replace hc1 := iteT hg1 hc1
    refine o_skip hS rfl rfl rfl hg1 ?_; clear hS; try clear tm
    intro tm hS
    refine o_skip hS rfl rfl rfl hg1 ?_; clear hS; try clear tm
    intro tm hS
    refine o_skip hS rfl rfl rfl hg1 ?_; clear hS; try clear tm
    intro tm hS
    refine o_skip hS rfl rfl rfl hg1 ?_; clear hS; try clear tm
    intro tm hS
    refine o_skip hS rfl rfl rfl hg1 ?_; clear hS; try clear tm
    intro tm hS
    refine o_skip hS rfl rfl rfl hg1 ?_; clear hS; try clear tm
    intro tm hS
    refine o_skip hS rfl rfl rfl hg1 ?_; clear hS; try clear tm
    intro tm hS
    refine o_skip hS rfl rfl rfl hg1 ?_; clear hS; try clear tm
    intro tm hS
    refine o_skip hS rfl rfl rfl hg1 ?_; clear hS; try clear tm
    intro tm hS
    refine o_pickT hS (.inl rfl) rfl rfl hg1 rfl ?_; clear hS; try clear tm
    intro tm hS
    obtain rfl := Option.some.inj hc1
    exact o_nil (hS.keep (ka_cons rfl (ka_cons rfl (ka_cons rfl (ka_cons rfl ka_nil)))) (fun hI => (hI.sub (sc sn))))
   ·replace hc1 := iteF hg1 hc1
    refine o_pure hS (.inr ⟨_, _, _, _, rfl, rfl, rfl, hg1⟩) rfl rfl ?_; clear hS; try clear tm
    intro tm hS
    refine o_pure hS (.inr ⟨_, _, _, _, rfl, rfl, rfl, hg1⟩) rfl rfl ?_; clear hS; try clear tm
    intro tm hS
    obtain ⟨y2, hx3, hc1⟩ := bindS hc1
    refine o_ixA (k := 0) (r := rS) hS (.inr ⟨_, _, _, _, rfl, rfl, rfl, hg1⟩) rfl rfl rfl rfl (.inr (.inr rfl)) Fu55 Fs9 hx3 ?_; clear hS; try clear tm
    intro tm hS
    refine o_ldF (r := rS) (k := 0) hS (.inr ⟨_, _, _, _, rfl, rfl, rfl, hg1⟩) rfl rfl rfl (.inr (.inr rfl)) hx3 Fu9 rfl flat_S rfl ?_; clear hS; try clear tm
    intro tm hS
    refine o_pure hS (.inr ⟨_, _, _, _, rfl, rfl, rfl, hg1⟩) rfl rfl ?_; clear hS; try clear tm
    intro tm hS
    refine o_pure hS (.inr ⟨_, _, _, _, rfl, rfl, rfl, hg1⟩) rfl rfl ?_; clear hS; try clear tm
    intro tm hS
    refine o_pure hS (.inr ⟨_, _, _, _, rfl, rfl, rfl, hg1⟩) rfl rfl ?_; clear hS; try clear tm
    intro tm hS
    obtain ⟨r3, hx4, hc1⟩ := bindS hc1
    refine o_call hS (.inr ⟨_, _, _, _, rfl, rfl, rfl, hg1⟩) rfl (fun wm' hw1 hw2 => wk35 ho48 y2 b1 r1 b1   (hS.sel hw2) hx4) (fun wm' res H hw' hp => ?_)
    obtain ⟨hres, hI⟩ := hp
    replace hres := hres.symm; subst hres
    replace hS : S wm 128 _ H ((43, .bool r3) :: _) ([] ++ _) Fr := hS.after rfl hw' hI
    clear hI hw'
    refine o_pure hS (.inr ⟨_, _, _, _, rfl, rfl, rfl, hg1⟩) rfl rfl ?_; clear hS; try clear tm
    intro tm hS
    refine o_pickF hS (.inl rfl) rfl rfl hg1 rfl ?_; clear hS; try clear tm
    intro tm hS
    obtain rfl := Option.some.inj hc1
    exact o_nil (hS.keep (ka_cons rfl (ka_cons rfl (ka_cons rfl (ka_cons rfl ka_nil)))) (fun hI => (hI.sub (sc sn))))
  intro tm H hS
  refine o_nil (hR _ _ ?_)
  clear hR R
  refine c_cond hS rfl (fun hc => ?_) (fun hc => ?_)
  ·replace h1 := iteT hc h1
   refine c_reg fun R hR => ?_
   refine o_pure hS (.inl rfl) rfl rfl ?_; clear hS; try clear tm
   intro tm hS
   refine o_nil (hR _ _ ?_)
   clear hR R
   refine wpC.ret ?_
   obtain rfl := Option.some.inj h1
   obtain rfl := hq1 _ rfl
   refine And.intro rfl ?_
   obtain rfl := leave h0
   refine Exists.intro _ (And.intro (rs_tmp hS rfl rs_nil) ?_)
   have hI := hS.inv
   exact ⟨rfl, (hI.sub sn)⟩
  ·replace h1 := iteF hc h1
   refine wpC.skip ?_
   refine c_reg1 fun R hR => ?_
   refine o_pure hS (.inl rfl) rfl rfl ?_; clear hS; try clear tm
   intro tm hS
   refine o_pure hS (.inl rfl) rfl rfl ?_; clear hS; try clear tm
   intro tm hS
   refine o_pure hS (.inl rfl) rfl rfl ?_; clear hS; try clear tm
   intro tm hS
   refine o_nil (hR _ _ ?_)
   clear hR R
   obtain rfl := Option.some.inj h1
   refine ⟨_, rfl, ?_⟩
   change S wm 128 _ _ _ _ Fr; exact hS.keep (ka_cons rfl (ka_cons rfl (ka_cons rfl ka_nil))) (fun hI => (hI.sub (sc sn)))
 ·replace h1 := iteF hc h1
  refine wpC.exit ?_
  refine seqX ?_
  obtain rfl := Option.some.inj h1
  obtain rfl := hq1 _ rfl
  refine And.intro rfl (blk_eq ?_)
  replace h0 := joinN h0
  refine c_reg fun R hR => ?_
  refine o_lit (r := rS) (l := [str_61, str_226_137_165, str_62, str_226_137_160, str_226_136_167, str_226_136_168]) hS (.inl rfl) rfl Fl55 rfl rfl rfl (.cons rfl (.cons rfl (.cons rfl (.cons rfl (.cons rfl (.cons rfl .nil)))))) rfl rfl (ri_1 (rd_flat fun _ => rfl) (ri_1 (rd_flat fun _ => rfl) (ri_1 (rd_flat fun _ => rfl) (ri_1 (rd_flat fun _ => rfl) (ri_1 (rd_flat fun _ => rfl) (ri_1 (rd_flat fun _ => rfl) ri_nil)))))) rfl ?_; clear hS; try clear tm H
  intro v2 tm H hS
  refine o_pure hS (.inl rfl) rfl rfl ?_; clear hS; try clear tm
  intro tm hS
  refine o_nil (hR _ _ ?_)
  clear hR R
  refine c_seqS ?_
  refine c_reg fun R hR => ?_
  refine o_pure hS (.inl rfl) rfl rfl ?_; clear hS; try clear tm
  intro tm hS
  refine o_nil (hR _ _ ?_)
  clear hR R
  obtain ⟨k2, hw2, h0⟩ := bindS h0
  refine wpC.block ?_
  refine c_loop (I := fun (s : Int) tm H => match (generalizing := false) s with | i2 => S wm 128 tm H [(0, .int .i64 b1), (7, v2), (8, .int .i64 i2)] [.lit rS v2 ([str_61, str_226_137_165, str_62, str_226_137_160, str_226_136_167, str_226_136_168])] Fr) hw2 (by change S wm 128 _ _ _ _ Fr; exact hS.keep (ka_cons rfl (ka_cons rfl (ka_cons rfl ka_nil))) (fun hI => (hI.sub (sc sn)))) ?_
  clear hS
  intro i2 tm H c3 hS h11 hq11
  change S wm 128 tm H [(0, .int .i64 b1), (7, v2), (8, .int .i64 i2)] [.lit rS v2 ([str_61, str_226_137_165, str_62, str_226_137_160, str_226_136_167, str_226_136_168])] Fr at hS
  refine c_seqS ?_
  refine c_reg fun R hR => ?_
  refine o_pure hS (.inl rfl) rfl rfl ?_; clear hS; try clear tm
  intro tm hS
  refine o_pure hS (.inl rfl) rfl rfl ?_; clear hS; try clear tm
  intro tm hS
  refine o_len (k := 0) (r := rS) hS (.inl rfl) rfl rfl rfl (.inr (.inr rfl)) Fu55 rfl ?_; clear hS; try clear tm
  intro tm hS
  refine o_pure hS (.inl rfl) rfl rfl ?_; clear hS; try clear tm
  intro tm hS
  refine o_nil (hR _ _ ?_)
  clear hR R
  refine c_cond hS rfl (fun hc => ?_) (fun hc => ?_)
  ·replace h11 := iteT hc h11
   refine wpC.skip ?_
   refine c_seqS ?_
   refine wpC.block ?_
   refine c_reg fun R hR => ?_
   refine o_pure hS (.inl rfl) rfl rfl ?_; clear hS; try clear tm
   intro tm hS
   refine o_pure hS (.inl rfl) rfl rfl ?_; clear hS; try clear tm
   intro tm hS
   obtain ⟨y3, hx5, h11⟩ := bindS h11
   refine o_ixA (k := 0) (r := rS) hS (.inl rfl) rfl rfl rfl rfl (.inr (.inr rfl)) Fu55 Fs9 hx5 ?_; clear hS; try clear tm
   intro tm hS
   refine o_ldF (r := rS) (k := 0) hS (.inl rfl) rfl rfl rfl (.inr (.inr rfl)) hx5 Fu9 rfl flat_S rfl ?_; clear hS; try clear tm
   intro tm hS
   obtain ⟨⟨r4, r5⟩, hx6, h11⟩ := bindS h11
   refine o_call hS (.inl rfl) rfl (fun wm' hw1 hw2 => wk34  y3   (hS.sel hw2) hx6) (fun wm' res H hw' hp => ?_)
   obtain ⟨hres, hI⟩ := hp
   replace hres := hres.symm; subst hres
   replace hS : S wm 128 _ H ((58, .tuple #[.int .i64 r4, .int .i64 r5]) :: _) ([] ++ _) Fr := hS.after rfl hw' hI
   clear hI hw'
   refine o_pure hS (.inl rfl) rfl rfl ?_; clear hS; try clear tm
   intro tm hS
   refine o_pure hS (.inl rfl) rfl rfl ?_; clear hS; try clear tm
   intro tm hS
   refine o_pure hS (.inl rfl) rfl rfl ?_; clear hS; try clear tm
   intro tm hS
   refine o_pure hS (.inl rfl) rfl rfl ?_; clear hS; try clear tm
   intro tm hS
   refine o_pure hS (.inl rfl) rfl rfl ?_; clear hS; try clear tm
   intro tm hS
   refine o_nil (hR _ _ ?_)
   clear hR R
   refine c_reg fun R hR => ?_
   refine o_pure hS (.inl rfl) rfl rfl ?_; clear hS; try clear tm
   intro tm hS
   refine o_pure hS (.inl rfl) rfl rfl ?_; clear hS; try clear tm
   intro tm hS
   refine o_pure hS (.inl rfl) rfl rfl ?_; clear hS; try clear tm
   intro tm hS
   obtain ⟨c4, hc2, h11⟩ := bindS h11
   refine o_cutN 12 (J := fun tm H => S wm 128 tm H [(75, .bool c4), (0, .int .i64 b1), (7, v2), (8, .int .i64 i2)] [.lit rS v2 ([str_61, str_226_137_165, str_62, str_226_137_160, str_226_136_167, str_226_136_168])] Fr) ?_ ?_
   ·rcases Bool.eq_false_or_eq_true (r5 != 0) with hg2 | hg2
    ·replace hc2 := iteT hg2 hc2
     refine o_skip hS rfl rfl rfl hg2 ?_; clear hS; try clear tm
     intro tm hS
     refine o_skip hS rfl rfl rfl hg2 ?_; clear hS; try clear tm
     intro tm hS
     refine o_skip hS rfl rfl rfl hg2 ?_; clear hS; try clear tm
     intro tm hS
     refine o_skip hS rfl rfl rfl hg2 ?_; clear hS; try clear tm
     intro tm hS
     refine o_skip hS rfl rfl rfl hg2 ?_; clear hS; try clear tm
     intro tm hS
     refine o_skip hS rfl rfl rfl hg2 ?_; clear hS; try clear tm
     intro tm hS
     refine o_skip hS rfl rfl rfl hg2 ?_; clear hS; try clear tm
     intro tm hS
     refine o_skip hS rfl rfl rfl hg2 ?_; clear hS; try clear tm
     intro tm hS
     refine o_skip hS rfl rfl rfl hg2 ?_; clear hS; try clear tm
     intro tm hS
     refine o_skip hS rfl rfl rfl hg2 ?_; clear hS; try clear tm
     intro tm hS
     refine o_skip hS rfl rfl rfl hg2 ?_; clear hS; try clear tm
     intro tm hS
     refine o_pickT hS (.inl rfl) rfl rfl hg2 rfl ?_; clear hS; try clear tm
     intro tm hS
     obtain rfl := Option.some.inj hc2
     exact o_nil (hS.keep (ka_cons rfl (ka_cons rfl (ka_cons rfl (ka_cons rfl ka_nil)))) (fun hI => (hI.sub (sc sn))))
    ·replace hc2 := iteF hg2 hc2
     refine o_pure hS (.inr ⟨_, _, _, _, rfl, rfl, rfl, hg2⟩) rfl rfl ?_; clear hS; try clear tm
     intro tm hS
     refine o_pure hS (.inr ⟨_, _, _, _, rfl, rfl, rfl, hg2⟩) rfl rfl ?_; clear hS; try clear tm
     intro tm hS
     obtain ⟨y4, hx7, hc2⟩ := bindS hc2
     refine o_ixA (k := 0) (r := rS) hS (.inr ⟨_, _, _, _, rfl, rfl, rfl, hg2⟩) rfl rfl rfl rfl (.inr (.inr rfl)) Fu55 Fs9 hx7 ?_; clear hS; try clear tm
     intro tm hS
     refine o_ldF (r := rS) (k := 0) hS (.inr ⟨_, _, _, _, rfl, rfl, rfl, hg2⟩) rfl rfl rfl (.inr (.inr rfl)) hx7 Fu9 rfl flat_S rfl ?_; clear hS; try clear tm
     intro tm hS
     refine o_pure hS (.inr ⟨_, _, _, _, rfl, rfl, rfl, hg2⟩) rfl rfl ?_; clear hS; try clear tm
     intro tm hS
     refine o_pure hS (.inr ⟨_, _, _, _, rfl, rfl, rfl, hg2⟩) rfl rfl ?_; clear hS; try clear tm
     intro tm hS
     refine o_pure hS (.inr ⟨_, _, _, _, rfl, rfl, rfl, hg2⟩) rfl rfl ?_; clear hS; try clear tm
     intro tm hS
     refine o_pure hS (.inr ⟨_, _, _, _, rfl, rfl, rfl, hg2⟩) rfl rfl ?_; clear hS; try clear tm
     intro tm hS
     refine o_pure hS (.inr ⟨_, _, _, _, rfl, rfl, rfl, hg2⟩) rfl rfl ?_; clear hS; try clear tm
     intro tm hS
     obtain ⟨r6, hx8, hc2⟩ := bindS hc2
     refine o_call hS (.inr ⟨_, _, _, _, rfl, rfl, rfl, hg2⟩) rfl (fun wm' hw1 hw2 => wk35 ho48 y4 (IntKind.i64.wrap (BitVec.ofInt IntKind.i64.bits b1 &&& BitVec.ofInt IntKind.i64.bits 1).toNat) r4 (IntKind.i64.wrap (BitVec.ofInt IntKind.i64.bits b1 &&& BitVec.ofInt IntKind.i64.bits 1).toNat)   (hS.sel hw2) hx8) (fun wm' res H hw' hp => ?_)
     obtain ⟨hres, hI⟩ := hp
     replace hres := hres.symm; subst hres
     replace hS : S wm 128 _ H ((73, .bool r6) :: _) ([] ++ _) Fr := hS.after rfl hw' hI
     clear hI hw'
     refine o_pure hS (.inr ⟨_, _, _, _, rfl, rfl, rfl, hg2⟩) rfl rfl ?_; clear hS; try clear tm
     intro tm hS
     refine o_pickF hS (.inl rfl) rfl rfl hg2 rfl ?_; clear hS; try clear tm
     intro tm hS
     obtain rfl := Option.some.inj hc2
     exact o_nil (hS.keep (ka_cons rfl (ka_cons rfl (ka_cons rfl (ka_cons rfl ka_nil)))) (fun hI => (hI.sub (sc sn))))
   intro tm H hS
   refine o_nil (hR _ _ ?_)
   clear hR R
   refine c_cond hS rfl (fun hc => ?_) (fun hc => ?_)
   ·replace h11 := iteT hc h11
    refine c_reg fun R hR => ?_
    refine o_pure hS (.inl rfl) rfl rfl ?_; clear hS; try clear tm
    intro tm hS
    refine o_nil (hR _ _ ?_)
    clear hR R
    refine wpC.ret ?_
    obtain rfl := Option.some.inj h11
    obtain rfl := hq11 _ rfl
    refine And.intro rfl ?_
    obtain rfl := leave h0
    refine Exists.intro _ (And.intro (rs_tmp hS rfl rs_nil) ?_)
    have hI := hS.inv
    exact ⟨rfl, (hI.sub sn)⟩
   ·replace h11 := iteF hc h11
    refine wpC.skip ?_
    refine c_reg1 fun R hR => ?_
    refine o_pure hS (.inl rfl) rfl rfl ?_; clear hS; try clear tm
    intro tm hS
    refine o_pure hS (.inl rfl) rfl rfl ?_; clear hS; try clear tm
    intro tm hS
    refine o_pure hS (.inl rfl) rfl rfl ?_; clear hS; try clear tm
    intro tm hS
    refine o_nil (hR _ _ ?_)
    clear hR R
    obtain rfl := Option.some.inj h11
    refine ⟨_, rfl, ?_⟩
    change S wm 128 _ _ _ _ Fr; exact hS.keep (ka_cons rfl (ka_cons rfl (ka_cons rfl ka_nil))) (fun hI => (hI.sub (sc sn)))
  ·replace h11 := iteF hc h11
   refine wpC.exit ?_
   refine seqX ?_
   obtain rfl := Option.some.inj h11
   obtain rfl := hq11 _ rfl
   refine And.intro rfl (blk_eq ?_)
   replace h0 := joinN h0
   refine c_reg fun R hR => ?_
   refine o_lit (r := rS) (l := [str_124, str_60, str_226_137_164]) hS (.inl rfl) rfl Fl55 rfl rfl rfl (.cons rfl (.cons rfl (.cons rfl .nil))) rfl rfl (ri_1 (rd_flat fun _ => rfl) (ri_1 (rd_flat fun _ => rfl) (ri_1 (rd_flat fun _ => rfl) ri_nil))) rfl ?_; clear hS; try clear tm H
   intro v3 tm H hS
   refine o_pure hS (.inl rfl) rfl rfl ?_; clear hS; try clear tm
   intro tm hS
   refine o_nil (hR _ _ ?_)
   clear hR R
   refine c_seqS ?_
   refine c_reg fun R hR => ?_
   refine o_pure hS (.inl rfl) rfl rfl ?_; clear hS; try clear tm
   intro tm hS
   refine o_nil (hR _ _ ?_)
   clear hR R
   obtain ⟨k3, hw3, h0⟩ := bindS h0
   refine wpC.block ?_
   refine c_loop (I := fun (s : Int) tm H => match (generalizing := false) s with | i3 => S wm 128 tm H [(0, .int .i64 b1), (11, v3), (12, .int .i64 i3)] [.lit rS v3 ([str_124, str_60, str_226_137_164])] Fr) hw3 (by change S wm 128 _ _ _ _ Fr; exact hS.keep (ka_cons rfl (ka_cons rfl (ka_cons rfl ka_nil))) (fun hI => (hI.sub (sc sn)))) ?_
   clear hS
   intro i3 tm H c5 hS h17 hq17
   change S wm 128 tm H [(0, .int .i64 b1), (11, v3), (12, .int .i64 i3)] [.lit rS v3 ([str_124, str_60, str_226_137_164])] Fr at hS
   refine c_seqS ?_
   refine c_reg fun R hR => ?_
   refine o_pure hS (.inl rfl) rfl rfl ?_; clear hS; try clear tm
   intro tm hS
   refine o_pure hS (.inl rfl) rfl rfl ?_; clear hS; try clear tm
   intro tm hS
   refine o_len (k := 0) (r := rS) hS (.inl rfl) rfl rfl rfl (.inr (.inr rfl)) Fu55 rfl ?_; clear hS; try clear tm
   intro tm hS
   refine o_pure hS (.inl rfl) rfl rfl ?_; clear hS; try clear tm
   intro tm hS
   refine o_nil (hR _ _ ?_)
   clear hR R
   refine c_cond hS rfl (fun hc => ?_) (fun hc => ?_)
   ·replace h17 := iteT hc h17
    refine wpC.skip ?_
    refine c_seqS ?_
    refine wpC.block ?_
    refine c_reg fun R hR => ?_
    refine o_pure hS (.inl rfl) rfl rfl ?_; clear hS; try clear tm
    intro tm hS
    refine o_pure hS (.inl rfl) rfl rfl ?_; clear hS; try clear tm
    intro tm hS
    obtain ⟨y5, hx9, h17⟩ := bindS h17
    refine o_ixA (k := 0) (r := rS) hS (.inl rfl) rfl rfl rfl rfl (.inr (.inr rfl)) Fu55 Fs9 hx9 ?_; clear hS; try clear tm
    intro tm hS
    refine o_ldF (r := rS) (k := 0) hS (.inl rfl) rfl rfl rfl (.inr (.inr rfl)) hx9 Fu9 rfl flat_S rfl ?_; clear hS; try clear tm
    intro tm hS
    obtain ⟨⟨r7, r8⟩, hx10, h17⟩ := bindS h17
    refine o_call hS (.inl rfl) rfl (fun wm' hw1 hw2 => wk34  y5   (hS.sel hw2) hx10) (fun wm' res H hw' hp => ?_)
    obtain ⟨hres, hI⟩ := hp
    replace hres := hres.symm; subst hres
    replace hS : S wm 128 _ H ((88, .tuple #[.int .i64 r7, .int .i64 r8]) :: _) ([] ++ _) Fr := hS.after rfl hw' hI
    clear hI hw'
    refine o_pure hS (.inl rfl) rfl rfl ?_; clear hS; try clear tm
    intro tm hS
    refine o_pure hS (.inl rfl) rfl rfl ?_; clear hS; try clear tm
    intro tm hS
    refine o_pure hS (.inl rfl) rfl rfl ?_; clear hS; try clear tm
    intro tm hS
    refine o_pure hS (.inl rfl) rfl rfl ?_; clear hS; try clear tm
    intro tm hS
    refine o_pure hS (.inl rfl) rfl rfl ?_; clear hS; try clear tm
    intro tm hS
    refine o_nil (hR _ _ ?_)
    clear hR R
    refine c_reg fun R hR => ?_
    refine o_pure hS (.inl rfl) rfl rfl ?_; clear hS; try clear tm
    intro tm hS
    refine o_pure hS (.inl rfl) rfl rfl ?_; clear hS; try clear tm
    intro tm hS
    refine o_nil (hR _ _ ?_)
    clear hR R
    obtain ⟨x1, h19, h17⟩ := bindS h17
    refine c_seqJ (J := fun tm H => (match (generalizing := false) x1 with | x1 => S wm 128 tm H [(0, .int .i64 b1), (11, v3), (12, .int .i64 i3), (13, .int .i64 r7), (14, .int .i64 r8), (15, .int .i64 x1)] [.lit rS v3 ([str_124, str_60, str_226_137_164])] Fr)) ?_ ?_
    ·refine c_reg fun R hR => ?_
     refine o_pure hS (.inl rfl) rfl rfl ?_; clear hS; try clear tm
     intro tm hS
     refine o_pure hS (.inl rfl) rfl rfl ?_; clear hS; try clear tm
     intro tm hS
     refine o_nil (hR _ _ ?_)
     clear hR R
     refine c_cond hS rfl (fun hc => ?_) (fun hc => ?_)
     ·replace h19 := iteT hc h19
      refine c_reg1 fun R hR => ?_
      refine o_pure hS (.inl rfl) rfl rfl ?_; clear hS; try clear tm
      intro tm hS
      refine o_pure hS (.inl rfl) rfl rfl ?_; clear hS; try clear tm
      intro tm hS
      refine o_pure hS (.inl rfl) rfl rfl ?_; clear hS; try clear tm
      intro tm hS
      refine o_nil (hR _ _ ?_)
      clear hR R
      obtain rfl := Option.some.inj h19
      change S wm 128 _ _ _ _ Fr; exact hS.keep (ka_cons rfl (ka_cons rfl (ka_cons rfl (ka_cons rfl (ka_cons rfl (ka_cons rfl ka_nil)))))) (fun hI => (hI.sub (sc sn)))
     ·replace h19 := iteF hc h19
      refine wpC.skip ?_
      obtain rfl := Option.some.inj h19
      change S wm 128 _ _ _ _ Fr; exact hS.keep (ka_cons rfl (ka_cons rfl (ka_cons rfl (ka_cons rfl (ka_cons rfl (ka_cons rfl ka_nil)))))) (fun hI => (hI.sub (sc sn)))
    intro tm H hS
    change S wm 128 tm H [(0, .int .i64 b1), (11, v3), (12, .int .i64 i3), (13, .int .i64 r7), (14, .int .i64 r8), (15, .int .i64 x1)] [.lit rS v3 ([str_124, str_60, str_226_137_164])] Fr at hS
    refine c_reg fun R hR => ?_
    refine o_pure hS (.inl rfl) rfl rfl ?_; clear hS; try clear tm
    intro tm hS
    refine o_pure hS (.inl rfl) rfl rfl ?_; clear hS; try clear tm
    intro tm hS
    refine o_pure hS (.inl rfl) rfl rfl ?_; clear hS; try clear tm
    intro tm hS
    obtain ⟨c6, hc3, h17⟩ := bindS h17
    refine o_cutN 10 (J := fun tm H => S wm 128 tm H [(108, .bool c6), (0, .int .i64 b1), (11, v3), (12, .int .i64 i3)] [.lit rS v3 ([str_124, str_60, str_226_137_164])] Fr) ?_ ?_
    ·rcases Bool.eq_false_or_eq_true (r8 != 0) with hg3 | hg3
     ·replace hc3 := iteT hg3 hc3
      refine o_skip hS rfl rfl rfl hg3 ?_; clear hS; try clear tm
      intro tm hS
      refine o_skip hS rfl rfl rfl hg3 ?_; clear hS; try clear tm
      intro tm hS
      refine o_skip hS rfl rfl rfl hg3 ?_; clear hS; try clear tm
      intro tm hS
      refine o_skip hS rfl rfl rfl hg3 ?_; clear hS; try clear tm
      intro tm hS
      refine o_skip hS rfl rfl rfl hg3 ?_; clear hS; try clear tm
      intro tm hS
      refine o_skip hS rfl rfl rfl hg3 ?_; clear hS; try clear tm
      intro tm hS
      refine o_skip hS rfl rfl rfl hg3 ?_; clear hS; try clear tm
      intro tm hS
      refine o_skip hS rfl rfl rfl hg3 ?_; clear hS; try clear tm
      intro tm hS
      refine o_skip hS rfl rfl rfl hg3 ?_; clear hS; try clear tm
      intro tm hS
      refine o_pickT hS (.inl rfl) rfl rfl hg3 rfl ?_; clear hS; try clear tm
      intro tm hS
      obtain rfl := Option.some.inj hc3
      exact o_nil (hS.keep (ka_cons rfl (ka_cons rfl (ka_cons rfl (ka_cons rfl ka_nil)))) (fun hI => (hI.sub (sc sn))))
     ·replace hc3 := iteF hg3 hc3
      refine o_pure hS (.inr ⟨_, _, _, _, rfl, rfl, rfl, hg3⟩) rfl rfl ?_; clear hS; try clear tm
      intro tm hS
      refine o_pure hS (.inr ⟨_, _, _, _, rfl, rfl, rfl, hg3⟩) rfl rfl ?_; clear hS; try clear tm
      intro tm hS
      obtain ⟨y6, hx11, hc3⟩ := bindS hc3
      refine o_ixA (k := 0) (r := rS) hS (.inr ⟨_, _, _, _, rfl, rfl, rfl, hg3⟩) rfl rfl rfl rfl (.inr (.inr rfl)) Fu55 Fs9 hx11 ?_; clear hS; try clear tm
      intro tm hS
      refine o_ldF (r := rS) (k := 0) hS (.inr ⟨_, _, _, _, rfl, rfl, rfl, hg3⟩) rfl rfl rfl (.inr (.inr rfl)) hx11 Fu9 rfl flat_S rfl ?_; clear hS; try clear tm
      intro tm hS
      refine o_pure hS (.inr ⟨_, _, _, _, rfl, rfl, rfl, hg3⟩) rfl rfl ?_; clear hS; try clear tm
      intro tm hS
      refine o_pure hS (.inr ⟨_, _, _, _, rfl, rfl, rfl, hg3⟩) rfl rfl ?_; clear hS; try clear tm
      intro tm hS
      refine o_pure hS (.inr ⟨_, _, _, _, rfl, rfl, rfl, hg3⟩) rfl rfl ?_; clear hS; try clear tm
      intro tm hS
      obtain ⟨r9, hx12, hc3⟩ := bindS hc3
      refine o_call hS (.inr ⟨_, _, _, _, rfl, rfl, rfl, hg3⟩) rfl (fun wm' hw1 hw2 => wk35 ho48 y6 r7 x1 x1   (hS.sel hw2) hx12) (fun wm' res H hw' hp => ?_)
      obtain ⟨hres, hI⟩ := hp
      replace hres := hres.symm; subst hres
      replace hS : S wm 128 _ H ((106, .bool r9) :: _) ([] ++ _) Fr := hS.after rfl hw' hI
      clear hI hw'
      refine o_pure hS (.inr ⟨_, _, _, _, rfl, rfl, rfl, hg3⟩) rfl rfl ?_; clear hS; try clear tm
      intro tm hS
      refine o_pickF hS (.inl rfl) rfl rfl hg3 rfl ?_; clear hS; try clear tm
      intro tm hS
      obtain rfl := Option.some.inj hc3
      exact o_nil (hS.keep (ka_cons rfl (ka_cons rfl (ka_cons rfl (ka_cons rfl ka_nil)))) (fun hI => (hI.sub (sc sn))))
    intro tm H hS
    refine o_nil (hR _ _ ?_)
    clear hR R
    refine c_cond hS rfl (fun hc => ?_) (fun hc => ?_)
    ·replace h17 := iteT hc h17
     refine c_reg fun R hR => ?_
     refine o_pure hS (.inl rfl) rfl rfl ?_; clear hS; try clear tm
     intro tm hS
     refine o_nil (hR _ _ ?_)
     clear hR R
     refine wpC.ret ?_
     obtain rfl := Option.some.inj h17
     obtain rfl := hq17 _ rfl
     refine And.intro rfl ?_
     obtain rfl := leave h0
     refine Exists.intro _ (And.intro (rs_tmp hS rfl rs_nil) ?_)
     have hI := hS.inv
     exact ⟨rfl, (hI.sub sn)⟩
    ·replace h17 := iteF hc h17
     refine wpC.skip ?_
     refine c_reg1 fun R hR => ?_
     refine o_pure hS (.inl rfl) rfl rfl ?_; clear hS; try clear tm
     intro tm hS
     refine o_pure hS (.inl rfl) rfl rfl ?_; clear hS; try clear tm
     intro tm hS
     refine o_pure hS (.inl rfl) rfl rfl ?_; clear hS; try clear tm
     intro tm hS
     refine o_nil (hR _ _ ?_)
     clear hR R
     obtain rfl := Option.some.inj h17
     refine ⟨_, rfl, ?_⟩
     change S wm 128 _ _ _ _ Fr; exact hS.keep (ka_cons rfl (ka_cons rfl (ka_cons rfl ka_nil))) (fun hI => (hI.sub (sc sn)))
   ·replace h17 := iteF hc h17
    refine wpC.exit ?_
    refine seqX ?_
    obtain rfl := Option.some.inj h17
    obtain rfl := hq17 _ rfl
    refine And.intro rfl (blk_eq ?_)
    replace h0 := joinN h0
    refine c_reg fun R hR => ?_
    obtain ⟨⟨r10, r11⟩, hx13, h0⟩ := bindS h0
    refine o_call hS (.inl rfl) rfl (fun wm' hw1 hw2 => wk34  str_33   (hS.sel hw2) hx13) (fun wm' res H hw' hp => ?_)
    obtain ⟨hres, hI⟩ := hp
    replace hres := hres.symm; subst hres
    replace hS : S wm 128 _ H ((110, .tuple #[.int .i64 r10, .int .i64 r11]) :: _) ([] ++ _) Fr := hS.after rfl hw' hI
    clear hI hw'
    refine o_pure hS (.inl rfl) rfl rfl ?_; clear hS; try clear tm
    intro tm hS
    refine o_pure hS (.inl rfl) rfl rfl ?_; clear hS; try clear tm
    intro tm hS
    refine o_pure hS (.inl rfl) rfl rfl ?_; clear hS; try clear tm
    intro tm hS
    refine o_pure hS (.inl rfl) rfl rfl ?_; clear hS; try clear tm
    intro tm hS
    refine o_pure hS (.inl rfl) rfl rfl ?_; clear hS; try clear tm
    intro tm hS
    refine o_nil (hR _ _ ?_)
    clear hR R
    refine c_reg fun R hR => ?_
    refine o_pure hS (.inl rfl) rfl rfl ?_; clear hS; try clear tm
    intro tm hS
    refine o_pure hS (.inl rfl) rfl rfl ?_; clear hS; try clear tm
    intro tm hS
    refine o_pure hS (.inl rfl) rfl rfl ?_; clear hS; try clear tm
    intro tm hS
    obtain ⟨c7, hc4, h0⟩ := bindS h0
    refine o_cutN 9 (J := fun tm H => S wm 128 tm H [(124, .bool c7)] [] Fr) ?_ ?_
    ·rcases Bool.eq_false_or_eq_true (r11 == 0) with hg4 | hg4
     ·replace hc4 := iteT hg4 hc4
      refine o_pure hS (.inr ⟨_, _, _, _, rfl, rfl, rfl, hg4⟩) rfl rfl ?_; clear hS; try clear tm
      intro tm hS
      refine o_pure hS (.inr ⟨_, _, _, _, rfl, rfl, rfl, hg4⟩) rfl rfl ?_; clear hS; try clear tm
      intro tm hS
      refine o_pure hS (.inr ⟨_, _, _, _, rfl, rfl, rfl, hg4⟩) rfl rfl ?_; clear hS; try clear tm
      intro tm hS
      obtain ⟨c8, hc5, hc4⟩ := bindS hc4
      refine o_cutN 5 (J := fun tm H => S wm 128 tm H [(123, .bool c8), (115, .bool (r11 == 0))] [] Fr) ?_ ?_
      ·rcases Bool.eq_false_or_eq_true (decide (b1 < 0)) with hg5 | hg5
       ·replace hc5 := iteT hg5 hc5
        refine o_skip hS rfl rfl rfl hg5 ?_; clear hS; try clear tm
        intro tm hS
        refine o_skip hS rfl rfl rfl hg5 ?_; clear hS; try clear tm
        intro tm hS
        refine o_skip hS rfl rfl rfl hg5 ?_; clear hS; try clear tm
        intro tm hS
        refine o_skip hS rfl rfl rfl hg5 ?_; clear hS; try clear tm
        intro tm hS
        refine o_pickT hS (.inr ⟨_, _, _, _, rfl, rfl, rfl, hg4⟩) rfl rfl hg5 rfl ?_; clear hS; try clear tm
        intro tm hS
        obtain rfl := Option.some.inj hc5
        exact o_nil (hS.keep (ka_cons rfl (ka_cons rfl ka_nil)) (fun hI => (hI.sub sn)))
       ·replace hc5 := iteF hg5 hc5
        refine o_pure hS (.inr ⟨_, _, _, _, rfl, rfl, rfl, hg5⟩) rfl rfl ?_; clear hS; try clear tm
        intro tm hS
        refine o_pure hS (.inr ⟨_, _, _, _, rfl, rfl, rfl, hg5⟩) rfl rfl ?_; clear hS; try clear tm
        intro tm hS
        refine o_pure hS (.inr ⟨_, _, _, _, rfl, rfl, rfl, hg5⟩) rfl rfl ?_; clear hS; try clear tm
        intro tm hS
        obtain ⟨r12, hx14, hc5⟩ := bindS hc5
        refine o_call hS (.inr ⟨_, _, _, _, rfl, rfl, rfl, hg5⟩) rfl (fun wm' hw1 hw2 => wk35 ho48 str_33 r10 b1 b1   (hS.sel hw2) hx14) (fun wm' res H hw' hp => ?_)
        obtain ⟨hres, hI⟩ := hp
        replace hres := hres.symm; subst hres
        replace hS : S wm 128 _ H ((122, .bool r12) :: _) ([] ++ _) Fr := hS.after rfl hw' hI
        clear hI hw'
        refine o_pickF hS (.inr ⟨_, _, _, _, rfl, rfl, rfl, hg4⟩) rfl rfl hg5 rfl ?_; clear hS; try clear tm
        intro tm hS
        obtain rfl := Option.some.inj hc5
        exact o_nil (hS.keep (ka_cons rfl (ka_cons rfl ka_nil)) (fun hI => (hI.sub sn)))
      intro tm H hS
      refine o_pickT hS (.inl rfl) rfl rfl hg4 rfl ?_; clear hS; try clear tm
      intro tm hS
      obtain rfl := Option.some.inj hc4
      exact o_nil (hS.keep (ka_cons rfl ka_nil) (fun hI => (hI.sub sn)))
     ·replace hc4 := iteF hg4 hc4
      refine o_skip hS rfl rfl rfl hg4 ?_; clear hS; try clear tm
      intro tm hS
      refine o_skip hS rfl rfl rfl hg4 ?_; clear hS; try clear tm
      intro tm hS
      refine o_skip hS rfl rfl rfl hg4 ?_; clear hS; try clear tm
      intro tm hS
      refine o_skipU hS rfl rfl rfl ?_; clear hS; try clear tm
      intro tm hS
      refine o_skipU hS rfl rfl rfl ?_; clear hS; try clear tm
      intro tm hS
      refine o_skipU hS rfl rfl rfl ?_; clear hS; try clear tm
      intro tm hS
      refine o_skipU hS rfl rfl rfl ?_; clear hS; try clear tm
      intro tm hS
      refine o_skip hS rfl rfl rfl hg4 ?_; clear hS; try clear tm
      intro tm hS
      refine o_pickF hS (.inl rfl) rfl rfl hg4 rfl ?_; clear hS; try clear tm
      intro tm hS
      obtain rfl := Option.some.inj hc4
      exact o_nil (hS.keep (ka_cons rfl ka_nil) (fun hI => (hI.sub sn)))
    intro tm H hS
    refine o_pure hS (.inl rfl) rfl rfl ?_; clear hS; try clear tm
    intro tm hS
    obtain ⟨c9, hc6⟩ : ∃ x : Bool, x = (c7 && true) := ⟨_, rfl⟩
    refine o_cutN 2 (J := fun tm H => S wm 128 tm H [(127, .bool c9)] [] Fr) ?_ ?_
    ·rcases Bool.eq_false_or_eq_true c7 with hg6 | hg6
     ·refine o_call hS (.inr ⟨_, _, _, _, rfl, rfl, rfl, hg6⟩) rfl (fun wm' hw1 hw2 => wpF.told ho32 (Q := fun v H' => v = .bool true ∧ H' = H) ⟨rfl, rfl⟩) (fun wm' res H hw' hp => ?_)
      obtain ⟨rfl, rfl⟩ := hp
      replace hS := hS.put (d := 126) rfl (.bool true)
      clear hw'
      refine o_pickT hS (.inl rfl) rfl rfl hg6 rfl ?_; clear hS; try clear tm
      intro tm hS
      have hc6 : c9 = true := hc6.trans (by rw [hg6]; first | rfl | simp)
      subst hc6
      exact o_nil (hS.keep (ka_cons rfl ka_nil) (fun hI => (hI.sub sn)))
     ·refine o_skip hS rfl rfl rfl hg6 ?_; clear hS; try clear tm
      intro tm hS
      refine o_pickF hS (.inl rfl) rfl rfl hg6 rfl ?_; clear hS; try clear tm
      intro tm hS
      have hc6 : c9 = false := hc6.trans (by rw [hg6]; first | rfl | simp)
      subst hc6
      exact o_nil (hS.keep (ka_cons rfl ka_nil) (fun hI => (hI.sub sn)))
    intro tm H hS
    subst hc6
    refine o_pure hS (.inl rfl) rfl rfl ?_; clear hS; try clear tm
    intro tm hS
    refine o_nil (hR _ _ ?_)
    clear hR R
    refine wpC.ret ?_
    obtain rfl := Option.some.inj h0
    refine Exists.intro _ (And.intro (rs_tmp hS rfl rs_nil) ?_)
    have hI := hS.inv
    exact ⟨rfl, (hI.sub sn)⟩
end Go.Proofs.Ytamlcpligkkciaa.intsNothing
