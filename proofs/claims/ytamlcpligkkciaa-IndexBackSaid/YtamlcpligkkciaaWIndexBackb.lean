/- IndexBack: walks of the code: the run of each function comes to what its plain function says. -/
import Derived.Test.YtamlcpligkkciaaWIndexBacka
set_option maxHeartbeats 4000000
set_option linter.unusedVariables false
set_option linter.unusedSimpArgs false
set_option maxRecDepth 100000
open Go Go.Am Go.Proofs
namespace Go.Proofs.Ytamlcpligkkciaa.indexBack
variable {ora : FuncId → Bool}
theorem wk22 {wm : Nat} {H : AHeap} {Fr : List Ent}  (l1 : (List Am.Place))  (v1 : Value) (hI : Kn wm H [.fz rPlace v1 l1] Fr) {r : Bool} (h0 : M.anamnesislaw11_twice l1 = some r) :
  wpF Try.prog ora wm 22 [v1] H (fun res H => res = .bool r ∧ Kn wm H [] Fr) := by
 unfold M.anamnesislaw11_twice at h0
 refine f_enter (n := 44) Try.func22 rfl (by simp) hI rfl rfl rfl fun tm hS => ?_
 clear hI
 refine c_reg fun R hR => ?_
 refine o_pure hS (.inl rfl) rfl rfl ?_; clear hS; try clear tm
 intro tm hS
 refine o_nil (hR _ _ ?_)
 clear hR R
 refine c_seqS ?_
 refine c_reg fun R hR => ?_
 refine o_pure hS (.inl rfl) rfl rfl ?_; clear hS; try clear tm
 intro tm hS
 refine o_nil (hR _ _ ?_)
 clear hR R
 obtain ⟨k1, hw1, h0⟩ := bindS h0
 refine wpC.block ?_
 refine c_loop (I := fun (s : Int) tm H => match (generalizing := false) s with | i1 => S wm 44 tm H [(0, v1), (3, .int .i64 i1)] [.fz rPlace v1 l1] Fr) hw1 (by change S wm 44 _ _ _ _ Fr; exact hS.keep (ka_cons rfl (ka_cons rfl ka_nil)) (fun hI => (hI.sub (sc sn)))) ?_
 clear hS
 intro i1 tm H c1 hS h5 hq5
 change S wm 44 tm H [(0, v1), (3, .int .i64 i1)] [.fz rPlace v1 l1] Fr at hS
 refine c_seqS ?_
 refine c_reg fun R hR => ?_
 refine o_pure hS (.inl rfl) rfl rfl ?_; clear hS; try clear tm
 intro tm hS
 refine o_pure hS (.inl rfl) rfl rfl ?_; clear hS; try clear tm
 intro tm hS
 refine o_len (k := 0) (r := rPlace) hS (.inl rfl) rfl rfl rfl (.inl rfl) Fu26 rfl ?_; clear hS; try clear tm
 intro tm hS
 refine o_pure hS (.inl rfl) rfl rfl ?_; clear hS; try clear tm
 intro tm hS
 refine o_nil (hR _ _ ?_)
 clear hR R
 refine c_cond hS rfl (fun hc => ?_) (fun hc => ?_)
 ·replace h5 := iteT hc h5
  refine wpC.skip ?_
  refine c_seqS ?_
  refine wpC.block ?_
  refine c_seqS ?_
  refine c_reg fun R hR => ?_
  refine o_pure hS (.inl rfl) rfl rfl ?_; clear hS; try clear tm
  intro tm hS
  refine o_pure hS (.inl rfl) rfl rfl ?_; clear hS; try clear tm
  intro tm hS
  obtain ⟨y1, hx1, h5⟩ := bindS h5
  refine o_ixA (k := 0) (r := rPlace) hS (.inl rfl) rfl rfl rfl rfl (.inl rfl) Fu26 Fs32 hx1 ?_; clear hS; try clear tm
  intro tm hS
  refine o_fldP hS (.inl rfl) rfl rfl (hS.sliceOf (k := 0) rfl (.inl rfl) hx1) Fust32 rfl Fs4 ?_; clear hS; try clear tm
  intro tm hS
  refine o_ldPlaceAll (k := 0) hS (.inl rfl) rfl rfl rfl (.inl rfl) hx1 Fu4 rfl ?_; clear hS; try clear tm
  intro tm hS
  refine o_nil (hR _ _ ?_)
  clear hR R
  refine c_cond hS rfl (fun hc => ?_) (fun hc => ?_)
  ·replace h5 := iteT hc h5
   refine wpC.exit ?_
   refine seqX ?_
   refine blk_eq ?_
   refine c_reg1 fun R hR => ?_
   refine o_pure hS (.inl rfl) rfl rfl ?_; clear hS; try clear tm
   intro tm hS
   refine o_pure hS (.inl rfl) rfl rfl ?_; clear hS; try clear tm
   intro tm hS
   refine o_pure hS (.inl rfl) rfl rfl ?_; clear hS; try clear tm
   intro tm hS
   refine o_nil (hR _ _ ?_)
   clear hR R
   obtain rfl := Option.some.inj h5
   refine ⟨_, rfl, ?_⟩
   change S wm 44 _ _ _ _ Fr; exact hS.keep (ka_cons rfl (ka_cons rfl ka_nil)) (fun hI => (hI.sub (sc sn)))
  ·replace h5 := iteF hc h5
   refine wpC.skip ?_
   refine c_reg fun R hR => ?_
   refine o_pure hS (.inl rfl) rfl rfl ?_; clear hS; try clear tm
   intro tm hS
   refine o_pure hS (.inl rfl) rfl rfl ?_; clear hS; try clear tm
   intro tm hS
   obtain ⟨y2, hx2, h5⟩ := bindS h5
   refine o_ixA (k := 0) (r := rPlace) hS (.inl rfl) rfl rfl rfl rfl (.inl rfl) Fu26 Fs32 hx2 ?_; clear hS; try clear tm
   intro tm hS
   refine o_fldP hS (.inl rfl) rfl rfl (hS.sliceOf (k := 0) rfl (.inl rfl) hx2) Fust32 rfl Fs25 ?_; clear hS; try clear tm
   intro tm hS
   refine o_fldP hS (.inl rfl) rfl rfl (hS.sliceOf (k := 0) rfl (.inl rfl) hx2) Fust25 rfl Fs23 ?_; clear hS; try clear tm
   intro tm hS
   refine o_ldPlaceData (k := 0) hS (.inl rfl) rfl rfl rfl (.inl rfl) hx2 Fu23 rfl ?_; clear hS; try clear tm
   intro v2 tm hS
   refine o_pure hS (.inl rfl) rfl rfl ?_; clear hS; try clear tm
   intro tm hS
   refine o_nil (hR _ _ ?_)
   clear hR R
   refine c_reg fun R hR => ?_
   refine o_pure hS (.inl rfl) rfl rfl ?_; clear hS; try clear tm
   intro tm hS
   refine o_nil (hR _ _ ?_)
   clear hR R
   obtain ⟨k3, hw2, h5⟩ := bindS h5
   refine wpC.block ?_
   refine c_loop (I := fun (s : Int) tm H => match (generalizing := false) s with | k2 => S wm 44 tm H [(0, v1), (3, .int .i64 i1), (4, v2), (5, .int .i64 k2)] [.fz rPlace v1 l1, .fz (rI .i64) v2 y2.V.Data] Fr) hw2 (by change S wm 44 _ _ _ _ Fr; exact hS.keep (ka_cons rfl (ka_cons rfl (ka_cons rfl (ka_cons rfl ka_nil)))) (fun hI => (((hI.pull 0 rfl).pull 1 rfl).take 2))) ?_
   clear hS
   intro k2 tm H c2 hS h11 hq11
   change S wm 44 tm H [(0, v1), (3, .int .i64 i1), (4, v2), (5, .int .i64 k2)] [.fz rPlace v1 l1, .fz (rI .i64) v2 y2.V.Data] Fr at hS
   refine c_seqS ?_
   refine c_reg fun R hR => ?_
   refine o_pure hS (.inl rfl) rfl rfl ?_; clear hS; try clear tm
   intro tm hS
   refine o_pure hS (.inl rfl) rfl rfl ?_; clear hS; try clear tm
   intro tm hS
   refine o_len (k := 1) (r := (rI .i64)) hS (.inl rfl) rfl rfl rfl (.inl rfl) Fu23 rfl ?_; clear hS; try clear tm
   intro tm hS
   refine o_pure hS (.inl rfl) rfl rfl ?_; clear hS; try clear tm
   intro tm hS
   refine o_nil (hR _ _ ?_)
   clear hR R
   refine c_cond hS rfl (fun hc => ?_) (fun hc => ?_)
   ·replace h11 := iteT hc h11
    refine wpC.skip ?_
    refine c_seqS ?_
    refine wpC.block ?_
    refine c_reg fun R hR => ?_
    refine o_pure hS (.inl rfl) rfl rfl ?_; clear hS; try clear tm
    intro tm hS
    refine o_nil (hR _ _ ?_)
    clear hR R
    obtain ⟨k4, hw3, h11⟩ := bindS h11
    refine wpC.block ?_
    refine c_loop (I := fun (s : Int) tm H => match (generalizing := false) s with | n1 => S wm 44 tm H [(0, v1), (3, .int .i64 i1), (4, v2), (5, .int .i64 k2), (6, .int .i64 n1)] [.fz rPlace v1 l1, .fz (rI .i64) v2 y2.V.Data] Fr) hw3 (by change S wm 44 _ _ _ _ Fr; exact hS.keep (ka_cons rfl (ka_cons rfl (ka_cons rfl (ka_cons rfl (ka_cons rfl ka_nil))))) (fun hI => (hI.sub (sc (sc sn))))) ?_
    clear hS
    intro n1 tm H c3 hS h13 hq13
    change S wm 44 tm H [(0, v1), (3, .int .i64 i1), (4, v2), (5, .int .i64 k2), (6, .int .i64 n1)] [.fz rPlace v1 l1, .fz (rI .i64) v2 y2.V.Data] Fr at hS
    refine c_seqS ?_
    refine c_reg fun R hR => ?_
    refine o_pure hS (.inl rfl) rfl rfl ?_; clear hS; try clear tm
    intro tm hS
    refine o_pure hS (.inl rfl) rfl rfl ?_; clear hS; try clear tm
    intro tm hS
    refine o_pure hS (.inl rfl) rfl rfl ?_; clear hS; try clear tm
    intro tm hS
    refine o_nil (hR _ _ ?_)
    clear hR R
    refine c_cond hS rfl (fun hc => ?_) (fun hc => ?_)
    ·replace h13 := iteT hc h13
     refine wpC.skip ?_
     refine c_seqS ?_
     refine wpC.block ?_
     refine c_reg fun R hR => ?_
     refine o_pure hS (.inl rfl) rfl rfl ?_; clear hS; try clear tm
     intro tm hS
     refine o_pure hS (.inl rfl) rfl rfl ?_; clear hS; try clear tm
     intro tm hS
     obtain ⟨y3, hx3, h13⟩ := bindS h13
     refine o_ixA (k := 1) (r := (rI .i64)) hS (.inl rfl) rfl rfl rfl rfl (.inl rfl) Fu23 Fs2 hx3 ?_; clear hS; try clear tm
     intro tm hS
     refine o_ldF (r := (rI .i64)) (k := 1) hS (.inl rfl) rfl rfl rfl (.inl rfl) hx3 Fu2 rfl (flat_I _) rfl ?_; clear hS; try clear tm
     intro tm hS
     refine o_pure hS (.inl rfl) rfl rfl ?_; clear hS; try clear tm
     intro tm hS
     refine o_pure hS (.inl rfl) rfl rfl ?_; clear hS; try clear tm
     intro tm hS
     obtain ⟨y4, hx4, h13⟩ := bindS h13
     refine o_ixA (k := 1) (r := (rI .i64)) hS (.inl rfl) rfl rfl rfl rfl (.inl rfl) Fu23 Fs2 hx4 ?_; clear hS; try clear tm
     intro tm hS
     refine o_ldF (r := (rI .i64)) (k := 1) hS (.inl rfl) rfl rfl rfl (.inl rfl) hx4 Fu2 rfl (flat_I _) rfl ?_; clear hS; try clear tm
     intro tm hS
     refine o_pure hS (.inl rfl) rfl rfl ?_; clear hS; try clear tm
     intro tm hS
     refine o_nil (hR _ _ ?_)
     clear hR R
     refine c_cond hS rfl (fun hc => ?_) (fun hc => ?_)
     ·replace h13 := iteT hc h13
      refine c_reg fun R hR => ?_
      refine o_pure hS (.inl rfl) rfl rfl ?_; clear hS; try clear tm
      intro tm hS
      refine o_nil (hR _ _ ?_)
      clear hR R
      refine wpC.ret ?_
      obtain rfl := Option.some.inj h13
      obtain rfl := hq13 _ rfl
      refine And.intro rfl ?_
      obtain rfl := leave h11
      obtain rfl := hq11 _ rfl
      refine And.intro rfl ?_
      obtain rfl := leave h5
      obtain rfl := hq5 _ rfl
      refine And.intro rfl ?_
      obtain rfl := leave h0
      refine Exists.intro _ (And.intro (rs_tmp hS rfl rs_nil) ?_)
      have hI := hS.inv
      exact ⟨rfl, (hI.sub sn)⟩
     ·replace h13 := iteF hc h13
      refine wpC.skip ?_
      refine c_reg1 fun R hR => ?_
      refine o_pure hS (.inl rfl) rfl rfl ?_; clear hS; try clear tm
      intro tm hS
      refine o_pure hS (.inl rfl) rfl rfl ?_; clear hS; try clear tm
      intro tm hS
      refine o_pure hS (.inl rfl) rfl rfl ?_; clear hS; try clear tm
      intro tm hS
      refine o_nil (hR _ _ ?_)
      clear hR R
      obtain rfl := Option.some.inj h13
      refine ⟨_, rfl, ?_⟩
      change S wm 44 _ _ _ _ Fr; exact hS.keep (ka_cons rfl (ka_cons rfl (ka_cons rfl (ka_cons rfl (ka_cons rfl ka_nil))))) (fun hI => (hI.sub (sc (sc sn))))
    ·replace h13 := iteF hc h13
     refine wpC.exit ?_
     refine seqX ?_
     obtain rfl := Option.some.inj h13
     obtain rfl := hq13 _ rfl
     refine And.intro rfl (blk_eq ?_)
     replace h11 := joinN h11
     refine c_reg1 fun R hR => ?_
     refine o_pure hS (.inl rfl) rfl rfl ?_; clear hS; try clear tm
     intro tm hS
     refine o_pure hS (.inl rfl) rfl rfl ?_; clear hS; try clear tm
     intro tm hS
     refine o_pure hS (.inl rfl) rfl rfl ?_; clear hS; try clear tm
     intro tm hS
     refine o_nil (hR _ _ ?_)
     clear hR R
     obtain rfl := Option.some.inj h11
     refine ⟨_, rfl, ?_⟩
     change S wm 44 _ _ _ _ Fr; exact hS.keep (ka_cons rfl (ka_cons rfl (ka_cons rfl (ka_cons rfl ka_nil)))) (fun hI => (hI.sub (sc (sc sn))))
   ·replace h11 := iteF hc h11
    refine wpC.exit ?_
    refine seqX ?_
    obtain rfl := Option.some.inj h11
    obtain rfl := hq11 _ rfl
    refine And.intro rfl (blk_eq ?_)
    replace h5 := joinN h5
    refine c_reg1 fun R hR => ?_
    refine o_pure hS (.inl rfl) rfl rfl ?_; clear hS; try clear tm
    intro tm hS
    refine o_pure hS (.inl rfl) rfl rfl ?_; clear hS; try clear tm
    intro tm hS
    refine o_pure hS (.inl rfl) rfl rfl ?_; clear hS; try clear tm
    intro tm hS
    refine o_nil (hR _ _ ?_)
    clear hR R
    obtain rfl := Option.some.inj h5
    refine ⟨_, rfl, ?_⟩
    change S wm 44 _ _ _ _ Fr; exact hS.keep (ka_cons rfl (ka_cons rfl ka_nil)) (fun hI => (hI.sub (sc sn)))
 ·replace h5 := iteF hc h5
  refine wpC.exit ?_
  refine seqX ?_
  obtain rfl := Option.some.inj h5
  obtain rfl := hq5 _ rfl
  refine And.intro rfl (blk_eq ?_)
  replace h0 := joinN h0
  refine c_reg fun R hR => ?_
  refine o_pure hS (.inl rfl) rfl rfl ?_; clear hS; try clear tm
  intro tm hS
  refine o_nil (hR _ _ ?_)
  clear hR R
  refine wpC.ret ?_
  obtain rfl := Option.some.inj h0
  refine Exists.intro _ (And.intro (rs_tmp hS rfl rs_nil) ?_)
  have hI := hS.inv
  exact ⟨rfl, (hI.sub sn)⟩
theorem wk4 {wm : Nat} {H : AHeap} {Fr : List Ent} (ho12 : ora 12 = true) (v1 : Val) (places1 : (List Am.Place)) (n1 : Int)  (v2 : Value) (v3 : Value) (v4 : Value) (hI : Kn wm H [.fz (rI .i64) v2 v1.Shape, .fz (rI .i64) v3 v1.Data, .fz rPlace v4 places1] Fr) {r : Bool} (h0 : M.anamnesislaw11_IndexBack v1 places1 n1 = some r) :
  wpF Try.prog ora wm 4 [.agg #[.bool v1.Char, v2, v3], v4, .int .i64 n1] H (fun res H => res = .bool r ∧ Kn wm H [] Fr) := by
 unfold M.anamnesislaw11_IndexBack at h0
 refine f_enter (n := 127) Try.func4 rfl (by simp) hI rfl rfl rfl fun tm hS => ?_
 clear hI
 refine c_reg fun R hR => ?_
 refine o_box hS (.inl rfl) rfl rfl rfl (all_cons rfl (all_cons (hS.one (k := 0) rfl (.inl rfl)) (all_cons (hS.one (k := 1) rfl (.inl rfl)) all_nil))) ?_; clear hS; try clear tm H
 intro b1 tm H hS
 refine o_pure hS (.inl rfl) rfl rfl ?_; clear hS; try clear tm
 intro tm hS
 refine o_nil (hR _ _ ?_)
 clear hR R
 refine c_seqS ?_
 refine c_reg fun R hR => ?_
 refine o_pure hS (.inl rfl) rfl rfl ?_; clear hS; try clear tm
 intro tm hS
 refine o_ld1 (k := 0) hS (.inl rfl) rfl rfl rfl (.inl rfl) Fu23 rfl rfl ?_; clear hS; try clear tm
 intro tm hS
 refine o_len (k := 2) (r := (rI .i64)) hS (.inl rfl) rfl rfl rfl (.inl rfl) Fu23 rfl ?_; clear hS; try clear tm
 intro tm hS
 refine o_pure hS (.inl rfl) rfl rfl ?_; clear hS; try clear tm
 intro tm hS
 refine o_pure hS (.inl rfl) rfl rfl ?_; clear hS; try clear tm
 intro tm hS
 obtain ⟨c1, hc1⟩ : ∃ x : Bool, x = ((decide ((v1.Data.length : Int) > 1000)) || (decide ((v1.Shape.length : Int) > 10))) := ⟨_, rfl⟩
 refine o_cutN 5 (J := fun tm H => S wm 127 tm H [(26, .bool c1), (1, v4), (2, .int .i64 n1), (3, .pointer (some ⟨b1, 0, none⟩))] [.box b1 [.bool v1.Char, v2, v3], .fz (rI .i64) v2 v1.Shape, .fz (rI .i64) v3 v1.Data, .fz rPlace v4 places1] Fr) ?_ ?_
 ·rcases Bool.eq_false_or_eq_true (decide ((v1.Data.length : Int) > 1000)) with hg1 | hg1
  ·refine o_skip hS rfl rfl rfl hg1 ?_; clear hS; try clear tm
   intro tm hS
   refine o_skip hS rfl rfl rfl hg1 ?_; clear hS; try clear tm
   intro tm hS
   refine o_skip hS rfl rfl rfl hg1 ?_; clear hS; try clear tm
   intro tm hS
   refine o_skip hS rfl rfl rfl hg1 ?_; clear hS; try clear tm
   intro tm hS
   refine o_pickT hS (.inl rfl) rfl rfl hg1 rfl ?_; clear hS; try clear tm
   intro tm hS
   have hc1 : c1 = true := hc1.trans (by rw [hg1]; first | rfl | simp)
   subst hc1
   exact o_nil (hS.keep (ka_cons rfl (ka_cons rfl (ka_cons rfl (ka_cons rfl ka_nil)))) (fun hI => (hI.sub (sc (sc (sc (sc sn)))))))
  ·refine o_pure hS (.inr ⟨_, _, _, _, rfl, rfl, rfl, hg1⟩) rfl rfl ?_; clear hS; try clear tm
   intro tm hS
   refine o_ld1 (k := 0) hS (.inr ⟨_, _, _, _, rfl, rfl, rfl, hg1⟩) rfl rfl rfl (.inl rfl) Fu22 rfl rfl ?_; clear hS; try clear tm
   intro tm hS
   refine o_len (k := 1) (r := (rI .i64)) hS (.inr ⟨_, _, _, _, rfl, rfl, rfl, hg1⟩) rfl rfl rfl (.inl rfl) Fu22 rfl ?_; clear hS; try clear tm
   intro tm hS
   refine o_pure hS (.inr ⟨_, _, _, _, rfl, rfl, rfl, hg1⟩) rfl rfl ?_; clear hS; try clear tm
   intro tm hS
   refine o_pickF hS (.inl rfl) rfl rfl hg1 rfl ?_; clear hS; try clear tm
   intro tm hS
   have hc1 : c1 = (decide ((v1.Shape.length : Int) > 10)) := hc1.trans (by rw [hg1]; first | rfl | simp)
   subst hc1
   exact o_nil (hS.keep (ka_cons rfl (ka_cons rfl (ka_cons rfl (ka_cons rfl ka_nil)))) (fun hI => (hI.sub (sc (sc (sc (sc sn)))))))
 intro tm H hS
 subst hc1
 refine o_pure hS (.inl rfl) rfl rfl ?_; clear hS; try clear tm
 intro tm hS
 obtain ⟨c2, hc2, h0⟩ := bindS h0
 refine o_cutN 3 (J := fun tm H => S wm 127 tm H [(30, .bool c2), (1, v4), (2, .int .i64 n1), (3, .pointer (some ⟨b1, 0, none⟩))] [.box b1 [.bool v1.Char, v2, v3], .fz (rI .i64) v2 v1.Shape, .fz (rI .i64) v3 v1.Data, .fz rPlace v4 places1] Fr) ?_ ?_
 ·rcases Bool.eq_false_or_eq_true ((decide ((v1.Data.length : Int) > 1000)) || (decide ((v1.Shape.length : Int) > 10))) with hg2 | hg2
  ·replace hc2 := iteT hg2 hc2
   refine o_skip hS rfl rfl rfl hg2 ?_; clear hS; try clear tm
   intro tm hS
   refine o_skip hS rfl rfl rfl hg2 ?_; clear hS; try clear tm
   intro tm hS
   refine o_pickT hS (.inl rfl) rfl rfl hg2 rfl ?_; clear hS; try clear tm
   intro tm hS
   obtain rfl := Option.some.inj hc2
   exact o_nil (hS.keep (ka_cons rfl (ka_cons rfl (ka_cons rfl (ka_cons rfl ka_nil)))) (fun hI => (hI.sub (sc (sc (sc (sc sn)))))))
  ·replace hc2 := iteF hg2 hc2
   refine o_pure hS (.inr ⟨_, _, _, _, rfl, rfl, rfl, hg2⟩) rfl rfl ?_; clear hS; try clear tm
   intro tm hS
   obtain ⟨r1, hx1, hc2⟩ := bindS hc2
   refine o_call hS (.inr ⟨_, _, _, _, rfl, rfl, rfl, hg2⟩) rfl (fun wm' hw1 hw2 => wk11  places1  v4 ((hS.sel hw2).ad 3 rfl) hx1) (fun wm' res H hw' hp => ?_)
   obtain ⟨hres, hI⟩ := hp
   replace hres := hres.symm; subst hres
   replace hS : S wm 127 _ H ((29, .bool r1) :: _) ([] ++ _) Fr := hS.after rfl hw' hI
   clear hI hw'
   refine o_pickF hS (.inl rfl) rfl rfl hg2 rfl ?_; clear hS; try clear tm
   intro tm hS
   obtain rfl := Option.some.inj hc2
   exact o_nil (hS.keep (ka_cons rfl (ka_cons rfl (ka_cons rfl (ka_cons rfl ka_nil)))) (fun hI => (hI.sub (sc (sc (sc (sc sn)))))))
 intro tm H hS
 refine o_nil (hR _ _ ?_)
 clear hR R
 refine c_cond hS rfl (fun hc => ?_) (fun hc => ?_)
 ·replace h0 := iteT hc h0
  refine c_reg fun R hR => ?_
  refine o_call hS (.inl rfl) rfl (fun wm' hw1 hw2 => wpF.told ho12 (Q := fun v H' => v = .bool true ∧ H' = H) ⟨rfl, rfl⟩) (fun wm' res H hw' hp => ?_)
  obtain ⟨rfl, rfl⟩ := hp
  replace hS := hS.put (d := 31) rfl (.bool true)
  clear hw'
  refine o_pure hS (.inl rfl) rfl rfl ?_; clear hS; try clear tm
  intro tm hS
  refine o_nil (hR _ _ ?_)
  clear hR R
  refine wpC.ret ?_
  obtain rfl := Option.some.inj h0
  refine Exists.intro _ (And.intro (rs_tmp hS rfl rs_nil) ?_)
  have hI := hS.inv
  exact ⟨rfl, (hI.sub sn)⟩
 ·replace h0 := iteF hc h0
  refine wpC.skip ?_
  refine c_reg fun R hR => ?_
  refine o_ldA (k := 0) hS (.inl rfl) rfl rfl rfl (.inl rfl) Fu25 rfl Fs25 rfl ?_; clear hS; try clear tm
  intro tm hS
  refine o_pure hS (.inl rfl) rfl rfl ?_; clear hS; try clear tm
  intro tm hS
  obtain ⟨⟨r2, r3⟩, hx2, h0⟩ := bindS h0
  refine o_call hS (.inl rfl) rfl (fun wm' hw1 hw2 => wk14  v1 places1  v2 v3 v4 ((((hS.sel hw2).ad 3 rfl).ad 2 rfl).ad 1 rfl) hx2) (fun wm' res H hw' hp => ?_)
  obtain ⟨v5, v6, hres, hI⟩ := hp
  replace hres := hres.symm; subst hres
  replace hS : S wm 127 _ H ((35, .tuple #[.agg #[.bool r2.Char, v5, v6], .int .i64 r3]) :: _) ([.own (rI .i64) v5 r2.Shape, .own (rI .i64) v6 r2.Data] ++ _) Fr := hS.after rfl hw' hI
  clear hI hw'
  refine o_pure hS (.inl rfl) rfl rfl ?_; clear hS; try clear tm
  intro tm hS
  refine o_pure hS (.inl rfl) rfl rfl ?_; clear hS; try clear tm
  intro tm hS
  refine o_pure hS (.inl rfl) rfl rfl ?_; clear hS; try clear tm
  intro tm hS
  refine o_alloc hS (.inl rfl) rfl Fz25 (by decide) ?_; clear hS; try clear tm H
  intro b2 tm H hS
  refine o_st (k := 0) hS (.inl rfl) rfl rfl rfl Fs25 rfl rfl (all_cons rfl (all_cons (hS.one (k := 1) rfl (.inr (.inl rfl))) (all_cons (hS.one (k := 2) rfl (.inr (.inl rfl))) all_nil))) rfl ?_; clear hS; try clear H
  intro H hS
  refine o_pure hS (.inl rfl) rfl rfl ?_; clear hS; try clear tm
  intro tm hS
  refine o_nil (hR _ _ ?_)
  clear hR R
  refine c_seqS ?_
  refine c_reg fun R hR => ?_
  refine o_pure hS (.inl rfl) rfl rfl ?_; clear hS; try clear tm
  intro tm hS
  refine o_pure hS (.inl rfl) rfl rfl ?_; clear hS; try clear tm
  intro tm hS
  refine o_nil (hR _ _ ?_)
  clear hR R
  refine c_cond hS rfl (fun hc => ?_) (fun hc => ?_)
  ·replace h0 := iteT hc h0
   refine c_reg fun R hR => ?_
   refine o_ldA (k := 0) hS (.inl rfl) rfl rfl rfl (.inl rfl) Fu25 rfl Fs25 rfl ?_; clear hS; try clear tm
   intro tm hS
   refine o_pure hS (.inl rfl) rfl rfl ?_; clear hS; try clear tm
   intro tm hS
   refine o_pure hS (.inl rfl) rfl rfl ?_; clear hS; try clear tm
   intro tm hS
   obtain ⟨r4, hx3, h0⟩ := bindS h0
   refine o_call (Pc := fun _ res H => res = .bool r4 ∧ Kn wm H ([.box b2 [.bool r2.Char, v5, v6], .own (rI .i64) v5 r2.Shape, .own (rI .i64) v6 r2.Data, .box b1 [.bool v1.Char, v2, v3], .fz (rI .i64) v2 v1.Shape, .fz (rI .i64) v3 v1.Data, .fz rPlace v4 places1]) Fr) hS (.inl rfl) rfl (fun wm' hw1 hw2 => by
    obtain ⟨F2, kk_1, kk_2⟩ := hS.inv.lend (La := [.fz (rI .i64) v5 r2.Shape, .fz (rI .i64) v6 r2.Data]) (List.forall_mem_cons.mpr ⟨(.inr ⟨_, _, _, _, rfl, .inl (List.mem_of_getElem? (i := 1) rfl)⟩), (List.forall_mem_cons.mpr ⟨(.inr ⟨_, _, _, _, rfl, .inl (List.mem_of_getElem? (i := 2) rfl)⟩), (fun _ h => by cases h)⟩)⟩) hw1 hw2
    exact (wk19  r2 r3 r3  v5 v6 kk_1 hx3).mono fun res H2 ⟨qq_1, qq_2⟩ => ⟨qq_1, kk_2 _ qq_2⟩) (fun wm' res H hw' hp => ?_)
   obtain ⟨hres, hI⟩ := hp
   replace hres := hres.symm; subst hres
   replace hS : S wm 127 _ H ((43, .bool r4) :: _) ([.box b2 [.bool r2.Char, v5, v6], .own (rI .i64) v5 r2.Shape, .own (rI .i64) v6 r2.Data, .box b1 [.bool v1.Char, v2, v3], .fz (rI .i64) v2 v1.Shape, .fz (rI .i64) v3 v1.Data, .fz rPlace v4 places1]) Fr := (hS.put rfl _).withK hI
   clear hI hw'
   refine o_pure hS (.inl rfl) rfl rfl ?_; clear hS; try clear tm
   intro tm hS
   obtain ⟨c3, hc3⟩ : ∃ x : Bool, x = (r4 && true) := ⟨_, rfl⟩
   refine o_cutN 2 (J := fun tm H => S wm 127 tm H [(46, .bool c3)] [] Fr) ?_ ?_
   ·rcases Bool.eq_false_or_eq_true r4 with hg3 | hg3
    ·refine o_call hS (.inr ⟨_, _, _, _, rfl, rfl, rfl, hg3⟩) rfl (fun wm' hw1 hw2 => wpF.told ho12 (Q := fun v H' => v = .bool true ∧ H' = H) ⟨rfl, rfl⟩) (fun wm' res H hw' hp => ?_)
     obtain ⟨rfl, rfl⟩ := hp
     replace hS := hS.put (d := 45) rfl (.bool true)
     clear hw'
     refine o_pickT hS (.inl rfl) rfl rfl hg3 rfl ?_; clear hS; try clear tm
     intro tm hS
     have hc3 : c3 = true := hc3.trans (by rw [hg3]; first | rfl | simp)
     subst hc3
     exact o_nil (hS.keep (ka_cons rfl ka_nil) (fun hI => (hI.sub sn)))
    ·refine o_skip hS rfl rfl rfl hg3 ?_; clear hS; try clear tm
     intro tm hS
     refine o_pickF hS (.inl rfl) rfl rfl hg3 rfl ?_; clear hS; try clear tm
     intro tm hS
     have hc3 : c3 = false := hc3.trans (by rw [hg3]; first | rfl | simp)
     subst hc3
     exact o_nil (hS.keep (ka_cons rfl ka_nil) (fun hI => (hI.sub sn)))
   intro tm H hS
   subst hc3
   refine o_pure hS (.inl rfl) rfl rfl ?_; clear hS; try clear tm
   intro tm hS
   refine o_nil (hR _ _ ?_)
   clear hR R
   refine wpC.ret ?_
   obtain rfl := Option.some.inj h0
   refine Exists.intro _ (And.intro (rs_tmp hS rfl rs_nil) ?_)
   have hI := hS.inv
   exact ⟨rfl, (hI.sub sn)⟩
  ·replace h0 := iteF hc h0
   refine wpC.skip ?_
   refine c_reg fun R hR => ?_
   refine o_ldA (k := 3) hS (.inl rfl) rfl rfl rfl (.inl rfl) Fu25 rfl Fs25 rfl ?_; clear hS; try clear tm
   intro tm hS
   refine o_pure hS (.inl rfl) rfl rfl ?_; clear hS; try clear tm
   intro tm hS
   refine o_ldA (k := 0) hS (.inl rfl) rfl rfl rfl (.inl rfl) Fu25 rfl Fs25 rfl ?_; clear hS; try clear tm
   intro tm hS
   obtain ⟨⟨r5, r6⟩, hx4, h0⟩ := bindS h0
   refine o_call (Pc := fun _ res H => ∃ v7 v8, res = .tuple #[.agg #[.bool r5.Char, v7, v8], .int .i64 r6] ∧ Kn wm H ([.own (rI .i64) v7 r5.Shape, .own (rI .i64) v8 r5.Data] ++ [.box b2 [.bool r2.Char, v5, v6], .own (rI .i64) v5 r2.Shape, .own (rI .i64) v6 r2.Data, .box b1 [.bool v1.Char, v2, v3], .fz (rI .i64) v2 v1.Shape, .fz (rI .i64) v3 v1.Data, .fz rPlace v4 places1]) Fr) hS (.inl rfl) rfl (fun wm' hw1 hw2 => by
    obtain ⟨F2, kk_1, kk_2⟩ := hS.inv.lendR (La := [.fz (rI .i64) v2 v1.Shape, .fz (rI .i64) v3 v1.Data, .fz rPlace v4 places1, .fz (rI .i64) v5 r2.Shape, .fz (rI .i64) v6 r2.Data]) (List.forall_mem_cons.mpr ⟨(.inl ⟨rfl, List.mem_of_getElem? (i := 4) rfl⟩), (List.forall_mem_cons.mpr ⟨(.inl ⟨rfl, List.mem_of_getElem? (i := 5) rfl⟩), (List.forall_mem_cons.mpr ⟨(.inl ⟨rfl, List.mem_of_getElem? (i := 6) rfl⟩), (List.forall_mem_cons.mpr ⟨(.inr ⟨_, _, _, _, rfl, .inl (List.mem_of_getElem? (i := 1) rfl)⟩), (List.forall_mem_cons.mpr ⟨(.inr ⟨_, _, _, _, rfl, .inl (List.mem_of_getElem? (i := 2) rfl)⟩), (fun _ h => by cases h)⟩)⟩)⟩)⟩)⟩) hw1 hw2
    exact (wk16  v1 places1 r2  v2 v3 v4 v5 v6 kk_1 hx4).mono fun res H2 ⟨v7, v8, qq_1, qq_2⟩ => ⟨v7, v8, qq_1, kk_2 _ _ (List.forall_mem_cons.mpr ⟨⟨_, _, _, _, rfl, fun _ _ _ _ h => h⟩, (List.forall_mem_cons.mpr ⟨⟨_, _, _, _, rfl, fun _ _ _ _ h => h⟩, (fun _ h => by cases h)⟩)⟩) qq_2⟩) (fun wm' res H hw' hp => ?_)
   obtain ⟨v7, v8, hres, hI⟩ := hp
   replace hres := hres.symm; subst hres
   replace hS : S wm 127 _ H ((51, .tuple #[.agg #[.bool r5.Char, v7, v8], .int .i64 r6]) :: _) ([.own (rI .i64) v7 r5.Shape, .own (rI .i64) v8 r5.Data] ++ [.box b2 [.bool r2.Char, v5, v6], .own (rI .i64) v5 r2.Shape, .own (rI .i64) v6 r2.Data, .box b1 [.bool v1.Char, v2, v3], .fz (rI .i64) v2 v1.Shape, .fz (rI .i64) v3 v1.Data, .fz rPlace v4 places1]) Fr := (hS.put rfl _).withK hI
   clear hI hw'
   refine o_pure hS (.inl rfl) rfl rfl ?_; clear hS; try clear tm
   intro tm hS
   refine o_pure hS (.inl rfl) rfl rfl ?_; clear hS; try clear tm
   intro tm hS
   refine o_pure hS (.inl rfl) rfl rfl ?_; clear hS; try clear tm
   intro tm hS
   refine o_alloc hS (.inl rfl) rfl Fz25 (by decide) ?_; clear hS; try clear tm H
   intro b3 tm H hS
   refine o_st (k := 0) hS (.inl rfl) rfl rfl rfl Fs25 rfl rfl (all_cons rfl (all_cons (hS.one (k := 1) rfl (.inr (.inl rfl))) (all_cons (hS.one (k := 2) rfl (.inr (.inl rfl))) all_nil))) rfl ?_; clear hS; try clear H
   intro H hS
   refine o_pure hS (.inl rfl) rfl rfl ?_; clear hS; try clear tm
   intro tm hS
   refine o_nil (hR _ _ ?_)
   clear hR R
   refine c_seqS ?_
   refine c_reg fun R hR => ?_
   refine o_ldA (k := 0) hS (.inl rfl) rfl rfl rfl (.inl rfl) Fu25 rfl Fs25 rfl ?_; clear hS; try clear tm
   intro tm hS
   refine o_pure hS (.inl rfl) rfl rfl ?_; clear hS; try clear tm
   intro tm hS
   refine o_ldA (k := 6) hS (.inl rfl) rfl rfl rfl (.inl rfl) Fu25 rfl Fs25 rfl ?_; clear hS; try clear tm
   intro tm hS
   obtain ⟨r7, hx5, h0⟩ := bindS h0
   refine o_call (Pc := fun _ res H => res = .bool r7 ∧ Kn wm H ([.box b3 [.bool r5.Char, v7, v8], .own (rI .i64) v7 r5.Shape, .own (rI .i64) v8 r5.Data, .box b2 [.bool r2.Char, v5, v6], .own (rI .i64) v5 r2.Shape, .own (rI .i64) v6 r2.Data, .box b1 [.bool v1.Char, v2, v3], .fz (rI .i64) v2 v1.Shape, .fz (rI .i64) v3 v1.Data, .fz rPlace v4 places1]) Fr) hS (.inl rfl) rfl (fun wm' hw1 hw2 => by
    obtain ⟨F2, kk_1, kk_2⟩ := hS.inv.lend (La := [.fz (rI .i64) v7 r5.Shape, .fz (rI .i64) v8 r5.Data, .fz (rI .i64) v2 v1.Shape, .fz (rI .i64) v3 v1.Data]) (List.forall_mem_cons.mpr ⟨(.inr ⟨_, _, _, _, rfl, .inl (List.mem_of_getElem? (i := 1) rfl)⟩), (List.forall_mem_cons.mpr ⟨(.inr ⟨_, _, _, _, rfl, .inl (List.mem_of_getElem? (i := 2) rfl)⟩), (List.forall_mem_cons.mpr ⟨(.inl ⟨rfl, List.mem_of_getElem? (i := 7) rfl⟩), (List.forall_mem_cons.mpr ⟨(.inl ⟨rfl, List.mem_of_getElem? (i := 8) rfl⟩), (fun _ h => by cases h)⟩)⟩)⟩)⟩) hw1 hw2
    exact (wk20  r5 r6 v1  v7 v8 v2 v3 kk_1 hx5).mono fun res H2 ⟨qq_1, qq_2⟩ => ⟨qq_1, kk_2 _ qq_2⟩) (fun wm' res H hw' hp => ?_)
   obtain ⟨hres, hI⟩ := hp
   replace hres := hres.symm; subst hres
   replace hS : S wm 127 _ H ((57, .bool r7) :: _) ([.box b3 [.bool r5.Char, v7, v8], .own (rI .i64) v7 r5.Shape, .own (rI .i64) v8 r5.Data, .box b2 [.bool r2.Char, v5, v6], .own (rI .i64) v5 r2.Shape, .own (rI .i64) v6 r2.Data, .box b1 [.bool v1.Char, v2, v3], .fz (rI .i64) v2 v1.Shape, .fz (rI .i64) v3 v1.Data, .fz rPlace v4 places1]) Fr := (hS.put rfl _).withK hI
   clear hI hw'
   refine o_pure hS (.inl rfl) rfl rfl ?_; clear hS; try clear tm
   intro tm hS
   refine o_nil (hR _ _ ?_)
   clear hR R
   refine c_cond hS rfl (fun hc => ?_) (fun hc => ?_)
   ·replace h0 := iteT hc h0
    refine c_reg fun R hR => ?_
    refine o_pure hS (.inl rfl) rfl rfl ?_; clear hS; try clear tm
    intro tm hS
    refine o_nil (hR _ _ ?_)
    clear hR R
    refine wpC.ret ?_
    obtain rfl := Option.some.inj h0
    refine Exists.intro _ (And.intro (rs_tmp hS rfl rs_nil) ?_)
    have hI := hS.inv
    exact ⟨rfl, (hI.sub sn)⟩
   ·replace h0 := iteF hc h0
    refine wpC.skip ?_
    refine c_reg fun R hR => ?_
    refine o_ldA (k := 3) hS (.inl rfl) rfl rfl rfl (.inl rfl) Fu25 rfl Fs25 rfl ?_; clear hS; try clear tm
    intro tm hS
    obtain ⟨r8, hx6, h0⟩ := bindS h0
    refine o_call (Pc := fun _ res H => ∃ v9 v10, res = .agg #[.bool r8.Char, v9, v10] ∧ Kn wm H ([.own (rI .i64) v9 r8.Shape, .own (rI .i64) v10 r8.Data] ++ [.box b3 [.bool r5.Char, v7, v8], .own (rI .i64) v7 r5.Shape, .own (rI .i64) v8 r5.Data, .box b2 [.bool r2.Char, v5, v6], .own (rI .i64) v5 r2.Shape, .own (rI .i64) v6 r2.Data, .box b1 [.bool v1.Char, v2, v3], .fz (rI .i64) v2 v1.Shape, .fz (rI .i64) v3 v1.Data, .fz rPlace v4 places1]) Fr) hS (.inl rfl) rfl (fun wm' hw1 hw2 => by
     obtain ⟨F2, kk_1, kk_2⟩ := hS.inv.lendR (La := [.fz (rI .i64) v5 r2.Shape, .fz (rI .i64) v6 r2.Data]) (List.forall_mem_cons.mpr ⟨(.inr ⟨_, _, _, _, rfl, .inl (List.mem_of_getElem? (i := 4) rfl)⟩), (List.forall_mem_cons.mpr ⟨(.inr ⟨_, _, _, _, rfl, .inl (List.mem_of_getElem? (i := 5) rfl)⟩), (fun _ h => by cases h)⟩)⟩) hw1 hw2
     exact (wk21  r2  v5 v6 kk_1 hx6).mono fun res H2 ⟨v9, v10, qq_1, qq_2⟩ => ⟨v9, v10, qq_1, kk_2 _ _ (List.forall_mem_cons.mpr ⟨⟨_, _, _, _, rfl, fun _ _ _ _ h => h⟩, (List.forall_mem_cons.mpr ⟨⟨_, _, _, _, rfl, fun _ _ _ _ h => h⟩, (fun _ h => by cases h)⟩)⟩) qq_2⟩) (fun wm' res H hw' hp => ?_)
    obtain ⟨v9, v10, hres, hI⟩ := hp
    replace hres := hres.symm; subst hres
    replace hS : S wm 127 _ H ((60, .agg #[.bool r8.Char, v9, v10]) :: _) ([.own (rI .i64) v9 r8.Shape, .own (rI .i64) v10 r8.Data] ++ [.box b3 [.bool r5.Char, v7, v8], .own (rI .i64) v7 r5.Shape, .own (rI .i64) v8 r5.Data, .box b2 [.bool r2.Char, v5, v6], .own (rI .i64) v5 r2.Shape, .own (rI .i64) v6 r2.Data, .box b1 [.bool v1.Char, v2, v3], .fz (rI .i64) v2 v1.Shape, .fz (rI .i64) v3 v1.Data, .fz rPlace v4 places1]) Fr := (hS.put rfl _).withK hI
    clear hI hw'
    refine o_alloc hS (.inl rfl) rfl Fz25 (by decide) ?_; clear hS; try clear tm H
    intro b4 tm H hS
    refine o_st (k := 0) hS (.inl rfl) rfl rfl rfl Fs25 rfl rfl (all_cons rfl (all_cons (hS.one (k := 1) rfl (.inr (.inl rfl))) (all_cons (hS.one (k := 2) rfl (.inr (.inl rfl))) all_nil))) rfl ?_; clear hS; try clear H
    intro H hS
    refine o_nil (hR _ _ ?_)
    clear hR R
    refine c_seqS ?_
    refine c_reg fun R hR => ?_
    refine o_pure hS (.inl rfl) rfl rfl ?_; clear hS; try clear tm
    intro tm hS
    refine o_nil (hR _ _ ?_)
    clear hR R
    obtain ⟨k1, hw1, h0⟩ := bindS h0
    refine wpC.block ?_
    refine c_loop (I := fun (s : Int × (List Int)) tm H => match (generalizing := false) s with | (i1, l1) => S wm 127 tm H [(1, v4), (2, .int .i64 n1), (3, .pointer (some ⟨b1, 0, none⟩)), (11, .pointer (some ⟨b4, 0, none⟩)), (12, .int .i64 i1)] [.box b1 [.bool v1.Char, v2, v3], .box b4 [.bool r8.Char, v9, v10], .fz rPlace v4 places1, .fz (rI .i64) v2 v1.Shape, .fz (rI .i64) v3 v1.Data, .own (rI .i64) v9 r8.Shape, .own (rI .i64) v10 l1] Fr) hw1 (by change S wm 127 _ _ _ _ Fr; exact hS.keep (ka_cons rfl (ka_cons rfl (ka_cons rfl (ka_cons rfl (ka_cons rfl ka_nil))))) (fun hI => ((((((((hI.pull 2 rfl).pull 2 rfl).pull 11 rfl).pull 11 rfl).pull 12 rfl).pull 5 rfl).pull 12 rfl).take 7))) ?_
    clear hS
    intro s1 tm H c4 hS h1 hq1
    obtain ⟨i1, l1⟩ := s1
    change S wm 127 tm H [(1, v4), (2, .int .i64 n1), (3, .pointer (some ⟨b1, 0, none⟩)), (11, .pointer (some ⟨b4, 0, none⟩)), (12, .int .i64 i1)] [.box b1 [.bool v1.Char, v2, v3], .box b4 [.bool r8.Char, v9, v10], .fz rPlace v4 places1, .fz (rI .i64) v2 v1.Shape, .fz (rI .i64) v3 v1.Data, .own (rI .i64) v9 r8.Shape, .own (rI .i64) v10 l1] Fr at hS
    refine c_seqS ?_
    refine c_reg fun R hR => ?_
    refine o_pure hS (.inl rfl) rfl rfl ?_; clear hS; try clear tm
    intro tm hS
    refine o_pure hS (.inl rfl) rfl rfl ?_; clear hS; try clear tm
    intro tm hS
    refine o_ld1 (k := 1) hS (.inl rfl) rfl rfl rfl (.inl rfl) Fu23 rfl rfl ?_; clear hS; try clear tm
    intro tm hS
    refine o_len (k := 6) (r := (rI .i64)) hS (.inl rfl) rfl rfl rfl (.inr (.inl rfl)) Fu23 rfl ?_; clear hS; try clear tm
    intro tm hS
    refine o_pure hS (.inl rfl) rfl rfl ?_; clear hS; try clear tm
    intro tm hS
    refine o_nil (hR _ _ ?_)
    clear hR R
    refine c_cond hS rfl (fun hc => ?_) (fun hc => ?_)
    ·replace h1 := iteT hc h1
     refine wpC.skip ?_
     refine c_seqS ?_
     refine wpC.block ?_
     refine c_reg fun R hR => ?_
     refine o_pure hS (.inl rfl) rfl rfl ?_; clear hS; try clear tm
     intro tm hS
     refine o_ld1 (k := 1) hS (.inl rfl) rfl rfl rfl (.inl rfl) Fu23 rfl rfl ?_; clear hS; try clear tm
     intro tm hS
     refine o_pure hS (.inl rfl) rfl rfl ?_; clear hS; try clear tm
     intro tm hS
     refine o_pure hS (.inl rfl) rfl rfl ?_; clear hS; try clear tm
     intro tm hS
     refine o_pure hS (.inl rfl) rfl rfl ?_; clear hS; try clear tm
     intro tm hS
     refine o_pure hS (.inl rfl) rfl rfl ?_; clear hS; try clear tm
     intro tm hS
     refine o_pure hS (.inl rfl) rfl rfl ?_; clear hS; try clear tm
     intro tm hS
     refine o_pure hS (.inl rfl) rfl rfl ?_; clear hS; try clear tm
     intro tm hS
     obtain ⟨y1, hx7, h1⟩ := bindS h1
     refine o_ixA (k := 6) (r := (rI .i64)) hS (.inl rfl) rfl rfl rfl rfl (.inr (.inl rfl)) Fu23 Fs2 hx7 ?_; clear hS; try clear tm
     intro tm hS
     obtain ⟨l2, hx8, h1⟩ := bindS h1
     refine o_stE (k := 6) (r := (rI .i64)) hS (.inl rfl) rfl rfl rfl Fs2 rfl rfl (rd_flat fun _ => rfl) hx8 ?_; clear hS; try clear H
     intro H hS
     refine o_nil (hR _ _ ?_)
     clear hR R
     refine c_reg fun R hR => ?_
     refine o_pure hS (.inl rfl) rfl rfl ?_; clear hS; try clear tm
     intro tm hS
     refine o_ld1 (k := 1) hS (.inl rfl) rfl rfl rfl (.inl rfl) Fu23 rfl rfl ?_; clear hS; try clear tm
     intro tm hS
     refine o_pure hS (.inl rfl) rfl rfl ?_; clear hS; try clear tm
     intro tm hS
     obtain ⟨y2, hx9, h1⟩ := bindS h1
     refine o_ixA (k := 6) (r := (rI .i64)) hS (.inl rfl) rfl rfl rfl rfl (.inr (.inl rfl)) Fu23 Fs2 hx9 ?_; clear hS; try clear tm
     intro tm hS
     refine o_ldF (r := (rI .i64)) (k := 6) hS (.inl rfl) rfl rfl rfl (.inr (.inl rfl)) hx9 Fu2 rfl (flat_I _) rfl ?_; clear hS; try clear tm
     intro tm hS
     refine o_pure hS (.inl rfl) rfl rfl ?_; clear hS; try clear tm
     intro tm hS
     refine o_nil (hR _ _ ?_)
     clear hR R
     refine c_cond hS rfl (fun hc => ?_) (fun hc => ?_)
     ·replace h1 := iteT hc h1
      refine c_reg1 fun R hR => ?_
      refine o_pure hS (.inl rfl) rfl rfl ?_; clear hS; try clear tm
      intro tm hS
      refine o_ld1 (k := 1) hS (.inl rfl) rfl rfl rfl (.inl rfl) Fu23 rfl rfl ?_; clear hS; try clear tm
      intro tm hS
      refine o_pure hS (.inl rfl) rfl rfl ?_; clear hS; try clear tm
      intro tm hS
      refine o_pure hS (.inl rfl) rfl rfl ?_; clear hS; try clear tm
      intro tm hS
      refine o_ld1 (k := 1) hS (.inl rfl) rfl rfl rfl (.inl rfl) Fu23 rfl rfl ?_; clear hS; try clear tm
      intro tm hS
      refine o_pure hS (.inl rfl) rfl rfl ?_; clear hS; try clear tm
      intro tm hS
      obtain ⟨y3, hx10, h1⟩ := bindS h1
      refine o_ixA (k := 6) (r := (rI .i64)) hS (.inl rfl) rfl rfl rfl rfl (.inr (.inl rfl)) Fu23 Fs2 hx10 ?_; clear hS; try clear tm
      intro tm hS
      refine o_ldF (r := (rI .i64)) (k := 6) hS (.inl rfl) rfl rfl rfl (.inr (.inl rfl)) hx10 Fu2 rfl (flat_I _) rfl ?_; clear hS; try clear tm
      intro tm hS
      refine o_pure hS (.inl rfl) rfl rfl ?_; clear hS; try clear tm
      intro tm hS
      obtain ⟨y4, hx11, h1⟩ := bindS h1
      refine o_ixA (k := 6) (r := (rI .i64)) hS (.inl rfl) rfl rfl rfl rfl (.inr (.inl rfl)) Fu23 Fs2 hx11 ?_; clear hS; try clear tm
      intro tm hS
      obtain ⟨l3, hx12, h1⟩ := bindS h1
      refine o_stE (k := 6) (r := (rI .i64)) hS (.inl rfl) rfl rfl rfl Fs2 rfl rfl (rd_flat fun _ => rfl) hx12 ?_; clear hS; try clear H
      intro H hS
      refine o_nil (hR _ _ ?_)
      clear hR R
      refine c_reg1 fun R hR => ?_
      refine o_pure hS (.inl rfl) rfl rfl ?_; clear hS; try clear tm
      intro tm hS
      refine o_pure hS (.inl rfl) rfl rfl ?_; clear hS; try clear tm
      intro tm hS
      refine o_pure hS (.inl rfl) rfl rfl ?_; clear hS; try clear tm
      intro tm hS
      refine o_nil (hR _ _ ?_)
      clear hR R
      obtain rfl := Option.some.inj h1
      refine ⟨_, rfl, ?_⟩
      change S wm 127 _ _ _ _ Fr; exact hS.keep (ka_cons rfl (ka_cons rfl (ka_cons rfl (ka_cons rfl (ka_cons rfl ka_nil))))) (fun hI => (hI.sub (sc (sc (sc (sc (sc (sc (sc sn)))))))))
     ·replace h1 := iteF hc h1
      refine wpC.skip ?_
      refine c_reg1 fun R hR => ?_
      refine o_pure hS (.inl rfl) rfl rfl ?_; clear hS; try clear tm
      intro tm hS
      refine o_pure hS (.inl rfl) rfl rfl ?_; clear hS; try clear tm
      intro tm hS
      refine o_pure hS (.inl rfl) rfl rfl ?_; clear hS; try clear tm
      intro tm hS
      refine o_nil (hR _ _ ?_)
      clear hR R
      obtain rfl := Option.some.inj h1
      refine ⟨_, rfl, ?_⟩
      change S wm 127 _ _ _ _ Fr; exact hS.keep (ka_cons rfl (ka_cons rfl (ka_cons rfl (ka_cons rfl (ka_cons rfl ka_nil))))) (fun hI => (hI.sub (sc (sc (sc (sc (sc (sc (sc sn)))))))))
    ·replace h1 := iteF hc h1
     refine wpC.exit ?_
     refine seqX ?_
     obtain rfl := Option.some.inj h1
     obtain rfl := hq1 _ rfl
     refine And.intro rfl (blk_eq ?_)
     replace h0 := joinN h0
     refine c_reg fun R hR => ?_
     refine o_ldA (k := 0) hS (.inl rfl) rfl rfl rfl (.inl rfl) Fu25 rfl Fs25 rfl ?_; clear hS; try clear tm
     intro tm hS
     refine o_pure hS (.inl rfl) rfl rfl ?_; clear hS; try clear tm
     intro tm hS
     refine o_ldA (k := 1) hS (.inl rfl) rfl rfl rfl (.inl rfl) Fu25 rfl Fs25 rfl ?_; clear hS; try clear tm
     intro tm hS
     obtain ⟨⟨r9, r10⟩, hx13, h0⟩ := bindS h0
     refine o_call (Pc := fun _ res H => ∃ v11 v12, res = .tuple #[.agg #[.bool r9.Char, v11, v12], .int .i64 r10] ∧ Kn wm H ([.own (rI .i64) v11 r9.Shape, .own (rI .i64) v12 r9.Data] ++ [.box b1 [.bool v1.Char, v2, v3], .box b4 [.bool r8.Char, v9, v10], .fz rPlace v4 places1, .fz (rI .i64) v2 v1.Shape, .fz (rI .i64) v3 v1.Data, .own (rI .i64) v9 r8.Shape, .own (rI .i64) v10 l1]) Fr) hS (.inl rfl) rfl (fun wm' hw1 hw2 => by
      obtain ⟨F2, kk_1, kk_2⟩ := hS.inv.lendR (La := [.fz (rI .i64) v2 v1.Shape, .fz (rI .i64) v3 v1.Data, .fz rPlace v4 places1, .fz (rI .i64) v9 r8.Shape, .fz (rI .i64) v10 l1]) (List.forall_mem_cons.mpr ⟨(.inl ⟨rfl, List.mem_of_getElem? (i := 3) rfl⟩), (List.forall_mem_cons.mpr ⟨(.inl ⟨rfl, List.mem_of_getElem? (i := 4) rfl⟩), (List.forall_mem_cons.mpr ⟨(.inl ⟨rfl, List.mem_of_getElem? (i := 2) rfl⟩), (List.forall_mem_cons.mpr ⟨(.inr ⟨_, _, _, _, rfl, .inl (List.mem_of_getElem? (i := 5) rfl)⟩), (List.forall_mem_cons.mpr ⟨(.inr ⟨_, _, _, _, rfl, .inl (List.mem_of_getElem? (i := 6) rfl)⟩), (fun _ h => by cases h)⟩)⟩)⟩)⟩)⟩) hw1 hw2
      exact (wk16  v1 places1 (Val.mk r8.Char r8.Shape l1)  v2 v3 v4 v9 v10 kk_1 hx13).mono fun res H2 ⟨v11, v12, qq_1, qq_2⟩ => ⟨v11, v12, qq_1, kk_2 _ _ (List.forall_mem_cons.mpr ⟨⟨_, _, _, _, rfl, fun _ _ _ _ h => h⟩, (List.forall_mem_cons.mpr ⟨⟨_, _, _, _, rfl, fun _ _ _ _ h => h⟩, (fun _ h => by cases h)⟩)⟩) qq_2⟩) (fun wm' res H hw' hp => ?_)
     obtain ⟨v11, v12, hres, hI⟩ := hp
     replace hres := hres.symm; subst hres
     replace hS : S wm 127 _ H ((97, .tuple #[.agg #[.bool r9.Char, v11, v12], .int .i64 r10]) :: _) ([.own (rI .i64) v11 r9.Shape, .own (rI .i64) v12 r9.Data] ++ [.box b1 [.bool v1.Char, v2, v3], .box b4 [.bool r8.Char, v9, v10], .fz rPlace v4 places1, .fz (rI .i64) v2 v1.Shape, .fz (rI .i64) v3 v1.Data, .own (rI .i64) v9 r8.Shape, .own (rI .i64) v10 l1]) Fr := (hS.put rfl _).withK hI
     clear hI hw'
     refine o_pure hS (.inl rfl) rfl rfl ?_; clear hS; try clear tm
     intro tm hS
     refine o_pure hS (.inl rfl) rfl rfl ?_; clear hS; try clear tm
     intro tm hS
     refine o_pure hS (.inl rfl) rfl rfl ?_; clear hS; try clear tm
     intro tm hS
     refine o_alloc hS (.inl rfl) rfl Fz25 (by decide) ?_; clear hS; try clear tm H
     intro b5 tm H hS
     refine o_st (k := 0) hS (.inl rfl) rfl rfl rfl Fs25 rfl rfl (all_cons rfl (all_cons (hS.one (k := 1) rfl (.inr (.inl rfl))) (all_cons (hS.one (k := 2) rfl (.inr (.inl rfl))) all_nil))) rfl ?_; clear hS; try clear H
     intro H hS
     refine o_pure hS (.inl rfl) rfl rfl ?_; clear hS; try clear tm
     intro tm hS
     refine o_nil (hR _ _ ?_)
     clear hR R
     refine c_seqS ?_
     refine c_reg fun R hR => ?_
     refine o_pure hS (.inl rfl) rfl rfl ?_; clear hS; try clear tm
     intro tm hS
     refine o_pure hS (.inl rfl) rfl rfl ?_; clear hS; try clear tm
     intro tm hS
     refine o_pure hS (.inl rfl) rfl rfl ?_; clear hS; try clear tm
     intro tm hS
     obtain ⟨c5, hc4⟩ : ∃ x : Bool, x = ((r10 != 0) || ((r9.Data.length : Int) != (v1.Data.length : Int))) := ⟨_, rfl⟩
     refine o_cutN 8 (J := fun tm H => S wm 127 tm H [(110, .bool c5), (1, v4), (11, .pointer (some ⟨b4, 0, none⟩)), (13, .pointer (some ⟨b5, 0, none⟩))] [.box b5 [.bool r9.Char, v11, v12], .own (rI .i64) v11 r9.Shape, .own (rI .i64) v12 r9.Data, .box b4 [.bool r8.Char, v9, v10], .fz rPlace v4 places1, .own (rI .i64) v9 r8.Shape, .own (rI .i64) v10 l1] Fr) ?_ ?_
     ·rcases Bool.eq_false_or_eq_true (r10 != 0) with hg4 | hg4
      ·refine o_skip hS rfl rfl rfl hg4 ?_; clear hS; try clear tm
       intro tm hS
       refine o_skip hS rfl rfl rfl hg4 ?_; clear hS; try clear tm
       intro tm hS
       refine o_skip hS rfl rfl rfl hg4 ?_; clear hS; try clear tm
       intro tm hS
       refine o_skip hS rfl rfl rfl hg4 ?_; clear hS; try clear tm
       intro tm hS
       refine o_skip hS rfl rfl rfl hg4 ?_; clear hS; try clear tm
       intro tm hS
       refine o_skip hS rfl rfl rfl hg4 ?_; clear hS; try clear tm
       intro tm hS
       refine o_skip hS rfl rfl rfl hg4 ?_; clear hS; try clear tm
       intro tm hS
       refine o_pickT hS (.inl rfl) rfl rfl hg4 rfl ?_; clear hS; try clear tm
       intro tm hS
       have hc4 : c5 = true := hc4.trans (by rw [hg4]; first | rfl | simp)
       subst hc4
       exact o_nil (hS.keep (ka_cons rfl (ka_cons rfl (ka_cons rfl (ka_cons rfl ka_nil)))) (fun hI => (hI.sub (sc (sc (sc (sd (sc (sc (sd (sd (sc (sc sn)))))))))))))
      ·refine o_pure hS (.inr ⟨_, _, _, _, rfl, rfl, rfl, hg4⟩) rfl rfl ?_; clear hS; try clear tm
       intro tm hS
       refine o_ld1 (k := 0) hS (.inr ⟨_, _, _, _, rfl, rfl, rfl, hg4⟩) rfl rfl rfl (.inl rfl) Fu23 rfl rfl ?_; clear hS; try clear tm
       intro tm hS
       refine o_len (k := 2) (r := (rI .i64)) hS (.inr ⟨_, _, _, _, rfl, rfl, rfl, hg4⟩) rfl rfl rfl (.inr (.inl rfl)) Fu23 rfl ?_; clear hS; try clear tm
       intro tm hS
       refine o_pure hS (.inr ⟨_, _, _, _, rfl, rfl, rfl, hg4⟩) rfl rfl ?_; clear hS; try clear tm
       intro tm hS
       refine o_ld1 (k := 3) hS (.inr ⟨_, _, _, _, rfl, rfl, rfl, hg4⟩) rfl rfl rfl (.inl rfl) Fu23 rfl rfl ?_; clear hS; try clear tm
       intro tm hS
       refine o_len (k := 7) (r := (rI .i64)) hS (.inr ⟨_, _, _, _, rfl, rfl, rfl, hg4⟩) rfl rfl rfl (.inl rfl) Fu23 rfl ?_; clear hS; try clear tm
       intro tm hS
       refine o_pure hS (.inr ⟨_, _, _, _, rfl, rfl, rfl, hg4⟩) rfl rfl ?_; clear hS; try clear tm
       intro tm hS
       refine o_pickF hS (.inl rfl) rfl rfl hg4 rfl ?_; clear hS; try clear tm
       intro tm hS
       have hc4 : c5 = ((r9.Data.length : Int) != (v1.Data.length : Int)) := hc4.trans (by rw [hg4]; first | rfl | simp)
       subst hc4
       exact o_nil (hS.keep (ka_cons rfl (ka_cons rfl (ka_cons rfl (ka_cons rfl ka_nil)))) (fun hI => (hI.sub (sc (sc (sc (sd (sc (sc (sd (sd (sc (sc sn)))))))))))))
     intro tm H hS
     subst hc4
     refine o_nil (hR _ _ ?_)
     clear hR R
     refine c_cond hS rfl (fun hc => ?_) (fun hc => ?_)
     ·replace h0 := iteT hc h0
      refine c_reg fun R hR => ?_
      refine o_pure hS (.inl rfl) rfl rfl ?_; clear hS; try clear tm
      intro tm hS
      refine o_nil (hR _ _ ?_)
      clear hR R
      refine wpC.ret ?_
      obtain rfl := Option.some.inj h0
      refine Exists.intro _ (And.intro (rs_tmp hS rfl rs_nil) ?_)
      have hI := hS.inv
      exact ⟨rfl, (hI.sub sn)⟩
     ·replace h0 := iteF hc h0
      refine wpC.skip ?_
      refine c_seqS ?_
      refine c_reg fun R hR => ?_
      refine o_pure hS (.inl rfl) rfl rfl ?_; clear hS; try clear tm
      intro tm hS
      obtain ⟨r11, hx14, h0⟩ := bindS h0
      refine o_call hS (.inl rfl) rfl (fun wm' hw1 hw2 => wk22  places1  v4 ((hS.sel hw2).ad 4 rfl) hx14) (fun wm' res H hw' hp => ?_)
      obtain ⟨hres, hI⟩ := hp
      replace hres := hres.symm; subst hres
      replace hS : S wm 127 _ H ((112, .bool r11) :: _) ([] ++ _) Fr := hS.after rfl hw' hI
      clear hI hw'
      refine o_nil (hR _ _ ?_)
      clear hR R
      refine c_cond hS rfl (fun hc => ?_) (fun hc => ?_)
      ·replace h0 := iteT hc h0
       refine c_reg fun R hR => ?_
       refine o_call hS (.inl rfl) rfl (fun wm' hw1 hw2 => wpF.told ho12 (Q := fun v H' => v = .bool true ∧ H' = H) ⟨rfl, rfl⟩) (fun wm' res H hw' hp => ?_)
       obtain ⟨rfl, rfl⟩ := hp
       replace hS := hS.put (d := 113) rfl (.bool true)
       clear hw'
       refine o_pure hS (.inl rfl) rfl rfl ?_; clear hS; try clear tm
       intro tm hS
       refine o_nil (hR _ _ ?_)
       clear hR R
       refine wpC.ret ?_
       obtain rfl := Option.some.inj h0
       refine Exists.intro _ (And.intro (rs_tmp hS rfl rs_nil) ?_)
       have hI := hS.inv
       exact ⟨rfl, (hI.sub sn)⟩
      ·replace h0 := iteF hc h0
       refine wpC.skip ?_
       refine c_reg fun R hR => ?_
       refine o_ldA (k := 0) hS (.inl rfl) rfl rfl rfl (.inl rfl) Fu25 rfl Fs25 rfl ?_; clear hS; try clear tm
       intro tm hS
       refine o_pure hS (.inl rfl) rfl rfl ?_; clear hS; try clear tm
       intro tm hS
       obtain ⟨⟨r12, r13⟩, hx15, h0⟩ := bindS h0
       refine o_call (Pc := fun _ res H => ∃ v13 v14, res = .tuple #[.agg #[.bool r12.Char, v13, v14], .int .i64 r13] ∧ Kn wm H ([.own (rI .i64) v13 r12.Shape, .own (rI .i64) v14 r12.Data] ++ [.box b5 [.bool r9.Char, v11, v12], .own (rI .i64) v11 r9.Shape, .own (rI .i64) v12 r9.Data, .box b4 [.bool r8.Char, v9, v10], .fz rPlace v4 places1, .own (rI .i64) v9 r8.Shape, .own (rI .i64) v10 l1]) Fr) hS (.inl rfl) rfl (fun wm' hw1 hw2 => by
        obtain ⟨F2, kk_1, kk_2⟩ := hS.inv.lendR (La := [.fz (rI .i64) v11 r9.Shape, .fz (rI .i64) v12 r9.Data, .fz rPlace v4 places1]) (List.forall_mem_cons.mpr ⟨(.inr ⟨_, _, _, _, rfl, .inl (List.mem_of_getElem? (i := 1) rfl)⟩), (List.forall_mem_cons.mpr ⟨(.inr ⟨_, _, _, _, rfl, .inl (List.mem_of_getElem? (i := 2) rfl)⟩), (List.forall_mem_cons.mpr ⟨(.inl ⟨rfl, List.mem_of_getElem? (i := 4) rfl⟩), (fun _ h => by cases h)⟩)⟩)⟩) hw1 hw2
        exact (wk14  r9 places1  v11 v12 v4 kk_1 hx15).mono fun res H2 ⟨v13, v14, qq_1, qq_2⟩ => ⟨v13, v14, qq_1, kk_2 _ _ (List.forall_mem_cons.mpr ⟨⟨_, _, _, _, rfl, fun _ _ _ _ h => h⟩, (List.forall_mem_cons.mpr ⟨⟨_, _, _, _, rfl, fun _ _ _ _ h => h⟩, (fun _ h => by cases h)⟩)⟩) qq_2⟩) (fun wm' res H hw' hp => ?_)
       obtain ⟨v13, v14, hres, hI⟩ := hp
       replace hres := hres.symm; subst hres
       replace hS : S wm 127 _ H ((117, .tuple #[.agg #[.bool r12.Char, v13, v14], .int .i64 r13]) :: _) ([.own (rI .i64) v13 r12.Shape, .own (rI .i64) v14 r12.Data] ++ [.box b5 [.bool r9.Char, v11, v12], .own (rI .i64) v11 r9.Shape, .own (rI .i64) v12 r9.Data, .box b4 [.bool r8.Char, v9, v10], .fz rPlace v4 places1, .own (rI .i64) v9 r8.Shape, .own (rI .i64) v10 l1]) Fr := (hS.put rfl _).withK hI
       clear hI hw'
       refine o_pure hS (.inl rfl) rfl rfl ?_; clear hS; try clear tm
       intro tm hS
       refine o_pure hS (.inl rfl) rfl rfl ?_; clear hS; try clear tm
       intro tm hS
       refine o_pure hS (.inl rfl) rfl rfl ?_; clear hS; try clear tm
       intro tm hS
       refine o_alloc hS (.inl rfl) rfl Fz25 (by decide) ?_; clear hS; try clear tm H
       intro b6 tm H hS
       refine o_st (k := 0) hS (.inl rfl) rfl rfl rfl Fs25 rfl rfl (all_cons rfl (all_cons (hS.one (k := 1) rfl (.inr (.inl rfl))) (all_cons (hS.one (k := 2) rfl (.inr (.inl rfl))) all_nil))) rfl ?_; clear hS; try clear H
       intro H hS
       refine o_pure hS (.inl rfl) rfl rfl ?_; clear hS; try clear tm
       intro tm hS
       refine o_nil (hR _ _ ?_)
       clear hR R
       refine c_reg fun R hR => ?_
       refine o_ldA (k := 0) hS (.inl rfl) rfl rfl rfl (.inl rfl) Fu25 rfl Fs25 rfl ?_; clear hS; try clear tm
       intro tm hS
       refine o_pure hS (.inl rfl) rfl rfl ?_; clear hS; try clear tm
       intro tm hS
       refine o_ldA (k := 6) hS (.inl rfl) rfl rfl rfl (.inl rfl) Fu25 rfl Fs25 rfl ?_; clear hS; try clear tm
       intro tm hS
       obtain ⟨r14, hx16, h0⟩ := bindS h0
       refine o_call (Pc := fun _ res H => res = .bool r14 ∧ Kn wm H ([.box b6 [.bool r12.Char, v13, v14], .own (rI .i64) v13 r12.Shape, .own (rI .i64) v14 r12.Data, .box b5 [.bool r9.Char, v11, v12], .own (rI .i64) v11 r9.Shape, .own (rI .i64) v12 r9.Data, .box b4 [.bool r8.Char, v9, v10], .fz rPlace v4 places1, .own (rI .i64) v9 r8.Shape, .own (rI .i64) v10 l1]) Fr) hS (.inl rfl) rfl (fun wm' hw1 hw2 => by
        obtain ⟨F2, kk_1, kk_2⟩ := hS.inv.lend (La := [.fz (rI .i64) v13 r12.Shape, .fz (rI .i64) v14 r12.Data, .fz (rI .i64) v9 r8.Shape, .fz (rI .i64) v10 l1]) (List.forall_mem_cons.mpr ⟨(.inr ⟨_, _, _, _, rfl, .inl (List.mem_of_getElem? (i := 1) rfl)⟩), (List.forall_mem_cons.mpr ⟨(.inr ⟨_, _, _, _, rfl, .inl (List.mem_of_getElem? (i := 2) rfl)⟩), (List.forall_mem_cons.mpr ⟨(.inr ⟨_, _, _, _, rfl, .inl (List.mem_of_getElem? (i := 8) rfl)⟩), (List.forall_mem_cons.mpr ⟨(.inr ⟨_, _, _, _, rfl, .inl (List.mem_of_getElem? (i := 9) rfl)⟩), (fun _ h => by cases h)⟩)⟩)⟩)⟩) hw1 hw2
        exact (wk20  r12 r13 (Val.mk r8.Char r8.Shape l1)  v13 v14 v9 v10 kk_1 hx16).mono fun res H2 ⟨qq_1, qq_2⟩ => ⟨qq_1, kk_2 _ qq_2⟩) (fun wm' res H hw' hp => ?_)
       obtain ⟨hres, hI⟩ := hp
       replace hres := hres.symm; subst hres
       replace hS : S wm 127 _ H ((123, .bool r14) :: _) ([.box b6 [.bool r12.Char, v13, v14], .own (rI .i64) v13 r12.Shape, .own (rI .i64) v14 r12.Data, .box b5 [.bool r9.Char, v11, v12], .own (rI .i64) v11 r9.Shape, .own (rI .i64) v12 r9.Data, .box b4 [.bool r8.Char, v9, v10], .fz rPlace v4 places1, .own (rI .i64) v9 r8.Shape, .own (rI .i64) v10 l1]) Fr := (hS.put rfl _).withK hI
       clear hI hw'
       refine o_pure hS (.inl rfl) rfl rfl ?_; clear hS; try clear tm
       intro tm hS
       obtain ⟨c6, hc5⟩ : ∃ x : Bool, x = (r14 && true) := ⟨_, rfl⟩
       refine o_cutN 2 (J := fun tm H => S wm 127 tm H [(126, .bool c6)] [] Fr) ?_ ?_
       ·rcases Bool.eq_false_or_eq_true r14 with hg5 | hg5
        ·refine o_call hS (.inr ⟨_, _, _, _, rfl, rfl, rfl, hg5⟩) rfl (fun wm' hw1 hw2 => wpF.told ho12 (Q := fun v H' => v = .bool true ∧ H' = H) ⟨rfl, rfl⟩) (fun wm' res H hw' hp => ?_)
         obtain ⟨rfl, rfl⟩ := hp
         replace hS := hS.put (d := 125) rfl (.bool true)
         clear hw'
         refine o_pickT hS (.inl rfl) rfl rfl hg5 rfl ?_; clear hS; try clear tm
         intro tm hS
         have hc5 : c6 = true := hc5.trans (by rw [hg5]; first | rfl | simp)
         subst hc5
         exact o_nil (hS.keep (ka_cons rfl ka_nil) (fun hI => (hI.sub sn)))
        ·refine o_skip hS rfl rfl rfl hg5 ?_; clear hS; try clear tm
         intro tm hS
         refine o_pickF hS (.inl rfl) rfl rfl hg5 rfl ?_; clear hS; try clear tm
         intro tm hS
         have hc5 : c6 = false := hc5.trans (by rw [hg5]; first | rfl | simp)
         subst hc5
         exact o_nil (hS.keep (ka_cons rfl ka_nil) (fun hI => (hI.sub sn)))
       intro tm H hS
       subst hc5
       refine o_pure hS (.inl rfl) rfl rfl ?_; clear hS; try clear tm
       intro tm hS
       refine o_nil (hR _ _ ?_)
       clear hR R
       refine wpC.ret ?_
       obtain rfl := Option.some.inj h0
       refine Exists.intro _ (And.intro (rs_tmp hS rfl rs_nil) ?_)
       have hI := hS.inv
       exact ⟨rfl, (hI.sub sn)⟩
end Go.Proofs.Ytamlcpligkkciaa.indexBack
