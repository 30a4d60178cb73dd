/- ScalarTells: walks of the code: the run of each function comes to what its plain function says. -/
import Derived.Test.YtaedfhikoamfeaaWScalarTellsb
set_option maxHeartbeats 4000000
set_option linter.unusedVariables false
set_option linter.unusedSimpArgs false
set_option maxRecDepth 100000
open Go Go.Am Go.Proofs
namespace Go.Proofs.Ytaedfhikoamfeaa.scalarTells
variable {ora : FuncId → Bool}
theorem wk126 {wm : Nat} {H : AHeap} {Fr : List Ent}  (fn1 : ByteArray) (a1 : Int) (b1 : Int)   (hI : Kn wm H [] Fr) {r : Int × Bool} (h0 : M.anamnesisref01_logic fn1 a1 b1 = some r) :
  wpF Try.prog ora wm 126 [.string fn1, .int .i64 a1, .int .i64 b1] H (fun res H => res = .tuple #[.int .i64 r.1, .bool r.2] ∧ Kn wm H [] Fr) := by
 unfold M.anamnesisref01_logic at h0
 refine f_enter (n := 45) Try.func126 rfl (by simp) hI rfl rfl rfl fun tm hS => ?_
 clear hI
 refine c_reg fun R hR => ?_
 refine o_pure hS (.inl rfl) rfl rfl ?_; clear hS
 intro tm hS
 refine o_pure hS (.inl rfl) rfl rfl ?_; clear hS
 intro tm hS
 refine o_nil (hR _ _ ?_)
 clear hR R
 refine c_seqS ?_
 refine c_reg fun R hR => ?_
 refine o_pure hS (.inl rfl) rfl rfl ?_; clear hS
 intro tm hS
 refine o_pure hS (.inl rfl) rfl rfl ?_; clear hS
 intro tm hS
 refine o_pure hS (.inl rfl) rfl rfl ?_; clear hS
 intro tm hS
 obtain ⟨c1, hc1⟩ : ∃ x : Bool, x = ((a1 != 0) && (a1 != 1)) := ⟨_, rfl⟩
 refine o_cutN 3 (J := fun tm H => S wm 45 tm H [(15, .bool c1), (0, .string fn1), (1, .int .i64 a1), (2, .int .i64 b1)] [] Fr) ?_ ?_
 ·rcases Bool.eq_false_or_eq_true (a1 != 0) with hg1 | hg1
  ·refine o_pure hS (.inr ⟨_, _, _, _, rfl, rfl, rfl, hg1⟩) rfl rfl ?_; clear hS
   intro tm hS
   refine o_pure hS (.inr ⟨_, _, _, _, rfl, rfl, rfl, hg1⟩) rfl rfl ?_; clear hS
   intro tm hS
   refine o_pickT hS (.inl rfl) rfl rfl hg1 rfl ?_; clear hS
   intro tm hS
   have hc1 : c1 = (a1 != 1) := hc1.trans (by rw [hg1]; first | rfl | simp)
   subst hc1
   exact o_nil (hS.keep (ka_cons rfl (ka_cons rfl (ka_cons rfl (ka_cons rfl ka_nil)))) (fun hI => (hI.sub sn)))
  ·refine o_skip hS rfl rfl rfl hg1 ?_; clear hS
   intro tm hS
   refine o_skip hS rfl rfl rfl hg1 ?_; clear hS
   intro tm hS
   refine o_pickF hS (.inl rfl) rfl rfl hg1 rfl ?_; clear hS
   intro tm hS
   have hc1 : c1 = false := hc1.trans (by rw [hg1]; first | rfl | simp)
   subst hc1
   exact o_nil (hS.keep (ka_cons rfl (ka_cons rfl (ka_cons rfl (ka_cons rfl ka_nil)))) (fun hI => (hI.sub sn)))
 intro tm H hS
 subst hc1
 refine o_pure hS (.inl rfl) rfl rfl ?_; clear hS
 intro tm hS
 obtain ⟨c2, hc2⟩ : ∃ x : Bool, x = (((a1 != 0) && (a1 != 1)) || ((b1 != 0) && (b1 != 1))) := ⟨_, rfl⟩
 refine o_cutN 7 (J := fun tm H => S wm 45 tm H [(23, .bool c2), (0, .string fn1), (1, .int .i64 a1), (2, .int .i64 b1)] [] Fr) ?_ ?_
 ·rcases Bool.eq_false_or_eq_true ((a1 != 0) && (a1 != 1)) with hg2 | hg2
  ·refine o_skip hS rfl rfl rfl hg2 ?_; clear hS
   intro tm hS
   refine o_skip hS rfl rfl rfl hg2 ?_; clear hS
   intro tm hS
   refine o_skip hS rfl rfl rfl hg2 ?_; clear hS
   intro tm hS
   refine o_skipU hS rfl rfl rfl ?_; clear hS
   intro tm hS
   refine o_skipU hS rfl rfl rfl ?_; clear hS
   intro tm hS
   refine o_skip hS rfl rfl rfl hg2 ?_; clear hS
   intro tm hS
   refine o_pickT hS (.inl rfl) rfl rfl hg2 rfl ?_; clear hS
   intro tm hS
   have hc2 : c2 = true := hc2.trans (by rw [hg2]; first | rfl | simp)
   subst hc2
   exact o_nil (hS.keep (ka_cons rfl (ka_cons rfl (ka_cons rfl (ka_cons rfl ka_nil)))) (fun hI => (hI.sub sn)))
  ·refine o_pure hS (.inr ⟨_, _, _, _, rfl, rfl, rfl, hg2⟩) rfl rfl ?_; clear hS
   intro tm hS
   refine o_pure hS (.inr ⟨_, _, _, _, rfl, rfl, rfl, hg2⟩) rfl rfl ?_; clear hS
   intro tm hS
   refine o_pure hS (.inr ⟨_, _, _, _, rfl, rfl, rfl, hg2⟩) rfl rfl ?_; clear hS
   intro tm hS
   obtain ⟨c3, hc3⟩ : ∃ x : Bool, x = ((b1 != 0) && (b1 != 1)) := ⟨_, rfl⟩
   refine o_cutN 3 (J := fun tm H => S wm 45 tm H [(22, .bool c3), (0, .string fn1), (1, .int .i64 a1), (2, .int .i64 b1), (16, .bool ((a1 != 0) && (a1 != 1)))] [] Fr) ?_ ?_
   ·rcases Bool.eq_false_or_eq_true (b1 != 0) with hg3 | hg3
    ·refine o_pure hS (.inr ⟨_, _, _, _, rfl, rfl, rfl, hg3⟩) rfl rfl ?_; clear hS
     intro tm hS
     refine o_pure hS (.inr ⟨_, _, _, _, rfl, rfl, rfl, hg3⟩) rfl rfl ?_; clear hS
     intro tm hS
     refine o_pickT hS (.inr ⟨_, _, _, _, rfl, rfl, rfl, hg2⟩) rfl rfl hg3 rfl ?_; clear hS
     intro tm hS
     have hc3 : c3 = (b1 != 1) := hc3.trans (by rw [hg3]; first | rfl | simp)
     subst hc3
     exact o_nil (hS.keep (ka_cons rfl (ka_cons rfl (ka_cons rfl (ka_cons rfl (ka_cons rfl ka_nil))))) (fun hI => (hI.sub sn)))
    ·refine o_skip hS rfl rfl rfl hg3 ?_; clear hS
     intro tm hS
     refine o_skip hS rfl rfl rfl hg3 ?_; clear hS
     intro tm hS
     refine o_pickF hS (.inr ⟨_, _, _, _, rfl, rfl, rfl, hg2⟩) rfl rfl hg3 rfl ?_; clear hS
     intro tm hS
     have hc3 : c3 = false := hc3.trans (by rw [hg3]; first | rfl | simp)
     subst hc3
     exact o_nil (hS.keep (ka_cons rfl (ka_cons rfl (ka_cons rfl (ka_cons rfl (ka_cons rfl ka_nil))))) (fun hI => (hI.sub sn)))
   intro tm H hS
   subst hc3
   refine o_pickF hS (.inl rfl) rfl rfl hg2 rfl ?_; clear hS
   intro tm hS
   have hc2 : c2 = ((b1 != 0) && (b1 != 1)) := hc2.trans (by rw [hg2]; first | rfl | simp)
   subst hc2
   exact o_nil (hS.keep (ka_cons rfl (ka_cons rfl (ka_cons rfl (ka_cons rfl ka_nil)))) (fun hI => (hI.sub sn)))
 intro tm H hS
 subst hc2
 refine o_nil (hR _ _ ?_)
 clear hR R
 refine c_cond hS rfl (fun hc => ?_) (fun hc => ?_)
 ·replace h0 := iteT hc h0
  refine c_reg fun R hR => ?_
  refine o_pure hS (.inl rfl) rfl rfl ?_; clear hS
  intro tm hS
  refine o_pure hS (.inl rfl) rfl rfl ?_; clear hS
  intro tm hS
  refine o_nil (hR _ _ ?_)
  clear hR R
  refine wpC.ret ?_
  obtain rfl := Option.some.inj h0
  refine Exists.intro _ (And.intro (rs_tmp hS rfl (rs_tmp hS rfl rs_nil)) ?_)
  have hI := hS.inv
  exact ⟨rfl, (hI.sub sn)⟩
 ·replace h0 := iteF hc h0
  refine wpC.skip ?_
  refine c_reg fun R hR => ?_
  refine o_pure hS (.inl rfl) rfl rfl ?_; clear hS
  intro tm hS
  refine o_pure hS (.inl rfl) rfl rfl ?_; clear hS
  intro tm hS
  refine o_pure hS (.inl rfl) rfl rfl ?_; clear hS
  intro tm hS
  refine o_pure hS (.inl rfl) rfl rfl ?_; clear hS
  intro tm hS
  refine o_nil (hR _ _ ?_)
  clear hR R
  refine c_reg fun R hR => ?_
  refine o_pure hS (.inl rfl) rfl rfl ?_; clear hS
  intro tm hS
  refine o_pure hS (.inl rfl) rfl rfl ?_; clear hS
  intro tm hS
  refine o_pure hS (.inl rfl) rfl rfl ?_; clear hS
  intro tm hS
  refine o_pure hS (.inl rfl) rfl rfl ?_; clear hS
  intro tm hS
  refine o_pure hS (.inl rfl) rfl rfl ?_; clear hS
  intro tm hS
  refine o_pure hS (.inl rfl) rfl rfl ?_; clear hS
  intro tm hS
  refine o_nil (hR _ _ ?_)
  clear hR R
  refine c_seqS ?_
  refine c_reg fun R hR => ?_
  refine o_pure hS (.inl rfl) rfl rfl ?_; clear hS
  intro tm hS
  refine o_nil (hR _ _ ?_)
  clear hR R
  refine wpC.block ?_
  refine c_reg fun R hR => ?_
  refine o_pure hS (.inl rfl) rfl rfl ?_; clear hS
  intro tm hS
  refine o_pure hS (.inl rfl) rfl rfl ?_; clear hS
  intro tm hS
  refine o_nil (hR _ _ ?_)
  clear hR R
  refine c_cond hS rfl (fun hc => ?_) (fun hc => ?_)
  ·replace h0 := iteT hc h0
   refine c_reg fun R hR => ?_
   refine o_pure hS (.inl rfl) rfl rfl ?_; clear hS
   intro tm hS
   refine o_pure hS (.inl rfl) rfl rfl ?_; clear hS
   intro tm hS
   refine o_pure hS (.inl rfl) rfl rfl ?_; clear hS
   intro tm hS
   refine o_nil (hR _ _ ?_)
   clear hR R
   refine wpC.ret ?_
   obtain rfl := Option.some.inj h0
   refine Exists.intro _ (And.intro (rs_tmp hS rfl (rs_tmp hS rfl rs_nil)) ?_)
   have hI := hS.inv
   exact ⟨rfl, (hI.sub sn)⟩
  ·replace h0 := iteF hc h0
   refine c_reg fun R hR => ?_
   refine o_pure hS (.inl rfl) rfl rfl ?_; clear hS
   intro tm hS
   refine o_pure hS (.inl rfl) rfl rfl ?_; clear hS
   intro tm hS
   refine o_nil (hR _ _ ?_)
   clear hR R
   refine c_cond hS rfl (fun hc => ?_) (fun hc => ?_)
   ·replace h0 := iteT hc h0
    refine c_reg fun R hR => ?_
    refine o_pure hS (.inl rfl) rfl rfl ?_; clear hS
    intro tm hS
    refine o_pure hS (.inl rfl) rfl rfl ?_; clear hS
    intro tm hS
    refine o_pure hS (.inl rfl) rfl rfl ?_; clear hS
    intro tm hS
    refine o_nil (hR _ _ ?_)
    clear hR R
    refine wpC.ret ?_
    obtain rfl := Option.some.inj h0
    refine Exists.intro _ (And.intro (rs_tmp hS rfl (rs_tmp hS rfl rs_nil)) ?_)
    have hI := hS.inv
    exact ⟨rfl, (hI.sub sn)⟩
   ·replace h0 := iteF hc h0
    refine c_reg fun R hR => ?_
    refine o_pure hS (.inl rfl) rfl rfl ?_; clear hS
    intro tm hS
    refine o_pure hS (.inl rfl) rfl rfl ?_; clear hS
    intro tm hS
    refine o_nil (hR _ _ ?_)
    clear hR R
    refine c_cond hS rfl (fun hc => ?_) (fun hc => ?_)
    ·replace h0 := iteT hc h0
     refine c_reg fun R hR => ?_
     refine o_pure hS (.inl rfl) rfl rfl ?_; clear hS
     intro tm hS
     refine o_pure hS (.inl rfl) rfl rfl ?_; clear hS
     intro tm hS
     refine o_pure hS (.inl rfl) rfl rfl ?_; clear hS
     intro tm hS
     refine o_pure hS (.inl rfl) rfl rfl ?_; clear hS
     intro tm hS
     refine o_nil (hR _ _ ?_)
     clear hR R
     refine wpC.ret ?_
     obtain rfl := Option.some.inj h0
     refine Exists.intro _ (And.intro (rs_tmp hS rfl (rs_tmp hS rfl rs_nil)) ?_)
     have hI := hS.inv
     exact ⟨rfl, (hI.sub sn)⟩
    ·replace h0 := iteF hc h0
     refine wpC.skip ?_
     refine c_reg fun R hR => ?_
     refine o_pure hS (.inl rfl) rfl rfl ?_; clear hS
     intro tm hS
     refine o_pure hS (.inl rfl) rfl rfl ?_; clear hS
     intro tm hS
     refine o_pure hS (.inl rfl) rfl rfl ?_; clear hS
     intro tm hS
     refine o_pure hS (.inl rfl) rfl rfl ?_; clear hS
     intro tm hS
     refine o_nil (hR _ _ ?_)
     clear hR R
     refine wpC.ret ?_
     obtain rfl := Option.some.inj h0
     refine Exists.intro _ (And.intro (rs_tmp hS rfl (rs_tmp hS rfl rs_nil)) ?_)
     have hI := hS.inv
     exact ⟨rfl, (hI.sub sn)⟩
theorem wk80 {wm : Nat} {H : AHeap} {Fr : List Ent}  (fn1 : ByteArray) (a1 : Int) (b1 : Int)   (hI : Kn wm H [] Fr) {r : Int × Bool} (h0 : M.anamnesisref01_Dyad fn1 a1 b1 = some r) :
  wpF Try.prog ora wm 80 [.string fn1, .int .i64 a1, .int .i64 b1] H (fun res H => res = .tuple #[.int .i64 r.1, .bool r.2] ∧ Kn wm H [] Fr) := by
 unfold M.anamnesisref01_Dyad at h0
 refine f_enter (n := 215) Try.func80 rfl (by simp) hI rfl rfl rfl fun tm hS => ?_
 clear hI
 refine c_reg fun R hR => ?_
 refine o_pure hS (.inl rfl) rfl rfl ?_; clear hS
 intro tm hS
 refine o_pure hS (.inl rfl) rfl rfl ?_; clear hS
 intro tm hS
 refine o_nil (hR _ _ ?_)
 clear hR R
 refine c_seqS ?_
 refine c_reg fun R hR => ?_
 refine o_pure hS (.inl rfl) rfl rfl ?_; clear hS
 intro tm hS
 refine o_nil (hR _ _ ?_)
 clear hR R
 refine wpC.block ?_
 refine c_reg fun R hR => ?_
 refine o_pure hS (.inl rfl) rfl rfl ?_; clear hS
 intro tm hS
 refine o_pure hS (.inl rfl) rfl rfl ?_; clear hS
 intro tm hS
 refine o_nil (hR _ _ ?_)
 clear hR R
 refine c_cond hS rfl (fun hc => ?_) (fun hc => ?_)
 ·replace h0 := iteT hc h0
  refine c_seqS ?_
  refine c_reg fun R hR => ?_
  refine o_pure hS (.inl rfl) rfl rfl ?_; clear hS
  intro tm hS
  refine o_pure hS (.inl rfl) rfl rfl ?_; clear hS
  intro tm hS
  refine o_pure hS (.inl rfl) rfl rfl ?_; clear hS
  intro tm hS
  obtain ⟨c1, hc1⟩ : ∃ x : Bool, x = ((decide (b1 > 0)) && (decide (a1 > (IntKind.i64.wrap (9223372036854775807 - b1))))) := ⟨_, rfl⟩
  refine o_cutN 5 (J := fun tm H => S wm 215 tm H [(19, .bool c1), (1, .int .i64 a1), (2, .int .i64 b1)] [] Fr) ?_ ?_
  ·rcases Bool.eq_false_or_eq_true (decide (b1 > 0)) with hg1 | hg1
   ·refine o_pure hS (.inr ⟨_, _, _, _, rfl, rfl, rfl, hg1⟩) rfl rfl ?_; clear hS
    intro tm hS
    refine o_pure hS (.inr ⟨_, _, _, _, rfl, rfl, rfl, hg1⟩) rfl rfl ?_; clear hS
    intro tm hS
    refine o_pure hS (.inr ⟨_, _, _, _, rfl, rfl, rfl, hg1⟩) rfl rfl ?_; clear hS
    intro tm hS
    refine o_pure hS (.inr ⟨_, _, _, _, rfl, rfl, rfl, hg1⟩) rfl rfl ?_; clear hS
    intro tm hS
    refine o_pickT hS (.inl rfl) rfl rfl hg1 rfl ?_; clear hS
    intro tm hS
    have hc1 : c1 = (decide (a1 > (IntKind.i64.wrap (9223372036854775807 - b1)))) := hc1.trans (by rw [hg1]; first | rfl | simp)
    subst hc1
    exact o_nil (hS.keep (ka_cons rfl (ka_cons rfl (ka_cons rfl ka_nil))) (fun hI => (hI.sub sn)))
   ·refine o_skip hS rfl rfl rfl hg1 ?_; clear hS
    intro tm hS
    refine o_skip hS rfl rfl rfl hg1 ?_; clear hS
    intro tm hS
    refine o_skip hS rfl rfl rfl hg1 ?_; clear hS
    intro tm hS
    refine o_skip hS rfl rfl rfl hg1 ?_; clear hS
    intro tm hS
    refine o_pickF hS (.inl rfl) rfl rfl hg1 rfl ?_; clear hS
    intro tm hS
    have hc1 : c1 = false := hc1.trans (by rw [hg1]; first | rfl | simp)
    subst hc1
    exact o_nil (hS.keep (ka_cons rfl (ka_cons rfl (ka_cons rfl ka_nil))) (fun hI => (hI.sub sn)))
  intro tm H hS
  subst hc1
  refine o_pure hS (.inl rfl) rfl rfl ?_; clear hS
  intro tm hS
  obtain ⟨c2, hc2⟩ : ∃ x : Bool, x = (((decide (b1 > 0)) && (decide (a1 > (IntKind.i64.wrap (9223372036854775807 - b1))))) || ((decide (b1 < 0)) && (decide (a1 < (IntKind.i64.wrap ((-9223372036854775808) - b1)))))) := ⟨_, rfl⟩
  refine o_cutN 9 (J := fun tm H => S wm 215 tm H [(29, .bool c2), (1, .int .i64 a1), (2, .int .i64 b1)] [] Fr) ?_ ?_
  ·rcases Bool.eq_false_or_eq_true ((decide (b1 > 0)) && (decide (a1 > (IntKind.i64.wrap (9223372036854775807 - b1))))) with hg2 | hg2
   ·refine o_skip hS rfl rfl rfl hg2 ?_; clear hS
    intro tm hS
    refine o_skip hS rfl rfl rfl hg2 ?_; clear hS
    intro tm hS
    refine o_skip hS rfl rfl rfl hg2 ?_; clear hS
    intro tm hS
    refine o_skipU hS rfl rfl rfl ?_; clear hS
    intro tm hS
    refine o_skipU hS rfl rfl rfl ?_; clear hS
    intro tm hS
    refine o_skipU hS rfl rfl rfl ?_; clear hS
    intro tm hS
    refine o_skipU hS rfl rfl rfl ?_; clear hS
    intro tm hS
    refine o_skip hS rfl rfl rfl hg2 ?_; clear hS
    intro tm hS
    refine o_pickT hS (.inl rfl) rfl rfl hg2 rfl ?_; clear hS
    intro tm hS
    have hc2 : c2 = true := hc2.trans (by rw [hg2]; first | rfl | simp)
    subst hc2
    exact o_nil (hS.keep (ka_cons rfl (ka_cons rfl (ka_cons rfl ka_nil))) (fun hI => (hI.sub sn)))
   ·refine o_pure hS (.inr ⟨_, _, _, _, rfl, rfl, rfl, hg2⟩) rfl rfl ?_; clear hS
    intro tm hS
    refine o_pure hS (.inr ⟨_, _, _, _, rfl, rfl, rfl, hg2⟩) rfl rfl ?_; clear hS
    intro tm hS
    refine o_pure hS (.inr ⟨_, _, _, _, rfl, rfl, rfl, hg2⟩) rfl rfl ?_; clear hS
    intro tm hS
    obtain ⟨c3, hc3⟩ : ∃ x : Bool, x = ((decide (b1 < 0)) && (decide (a1 < (IntKind.i64.wrap ((-9223372036854775808) - b1))))) := ⟨_, rfl⟩
    refine o_cutN 5 (J := fun tm H => S wm 215 tm H [(28, .bool c3), (1, .int .i64 a1), (2, .int .i64 b1), (20, .bool ((decide (b1 > 0)) && (decide (a1 > (IntKind.i64.wrap (9223372036854775807 - b1))))))] [] Fr) ?_ ?_
    ·rcases Bool.eq_false_or_eq_true (decide (b1 < 0)) with hg3 | hg3
     ·refine o_pure hS (.inr ⟨_, _, _, _, rfl, rfl, rfl, hg3⟩) rfl rfl ?_; clear hS
      intro tm hS
      refine o_pure hS (.inr ⟨_, _, _, _, rfl, rfl, rfl, hg3⟩) rfl rfl ?_; clear hS
      intro tm hS
      refine o_pure hS (.inr ⟨_, _, _, _, rfl, rfl, rfl, hg3⟩) rfl rfl ?_; clear hS
      intro tm hS
      refine o_pure hS (.inr ⟨_, _, _, _, rfl, rfl, rfl, hg3⟩) rfl rfl ?_; clear hS
      intro tm hS
      refine o_pickT hS (.inr ⟨_, _, _, _, rfl, rfl, rfl, hg2⟩) rfl rfl hg3 rfl ?_; clear hS
      intro tm hS
      have hc3 : c3 = (decide (a1 < (IntKind.i64.wrap ((-9223372036854775808) - b1)))) := hc3.trans (by rw [hg3]; first | rfl | simp)
      subst hc3
      exact o_nil (hS.keep (ka_cons rfl (ka_cons rfl (ka_cons rfl (ka_cons rfl ka_nil)))) (fun hI => (hI.sub sn)))
     ·refine o_skip hS rfl rfl rfl hg3 ?_; clear hS
      intro tm hS
      refine o_skip hS rfl rfl rfl hg3 ?_; clear hS
      intro tm hS
      refine o_skip hS rfl rfl rfl hg3 ?_; clear hS
      intro tm hS
      refine o_skip hS rfl rfl rfl hg3 ?_; clear hS
      intro tm hS
      refine o_pickF hS (.inr ⟨_, _, _, _, rfl, rfl, rfl, hg2⟩) rfl rfl hg3 rfl ?_; clear hS
      intro tm hS
      have hc3 : c3 = false := hc3.trans (by rw [hg3]; first | rfl | simp)
      subst hc3
      exact o_nil (hS.keep (ka_cons rfl (ka_cons rfl (ka_cons rfl (ka_cons rfl ka_nil)))) (fun hI => (hI.sub sn)))
    intro tm H hS
    subst hc3
    refine o_pickF hS (.inl rfl) rfl rfl hg2 rfl ?_; clear hS
    intro tm hS
    have hc2 : c2 = ((decide (b1 < 0)) && (decide (a1 < (IntKind.i64.wrap ((-9223372036854775808) - b1))))) := hc2.trans (by rw [hg2]; first | rfl | simp)
    subst hc2
    exact o_nil (hS.keep (ka_cons rfl (ka_cons rfl (ka_cons rfl ka_nil))) (fun hI => (hI.sub sn)))
  intro tm H hS
  subst hc2
  refine o_nil (hR _ _ ?_)
  clear hR R
  refine c_cond hS rfl (fun hc => ?_) (fun hc => ?_)
  ·replace h0 := iteT hc h0
   refine c_reg fun R hR => ?_
   refine o_pure hS (.inl rfl) rfl rfl ?_; clear hS
   intro tm hS
   refine o_pure hS (.inl rfl) rfl rfl ?_; clear hS
   intro tm hS
   refine o_nil (hR _ _ ?_)
   clear hR R
   refine wpC.ret ?_
   obtain rfl := Option.some.inj h0
   refine Exists.intro _ (And.intro (rs_tmp hS rfl (rs_tmp hS rfl rs_nil)) ?_)
   have hI := hS.inv
   exact ⟨rfl, (hI.sub sn)⟩
  ·replace h0 := iteF hc h0
   refine wpC.skip ?_
   refine c_reg fun R hR => ?_
   refine o_pure hS (.inl rfl) rfl rfl ?_; clear hS
   intro tm hS
   refine o_pure hS (.inl rfl) rfl rfl ?_; clear hS
   intro tm hS
   refine o_pure hS (.inl rfl) rfl rfl ?_; clear hS
   intro tm hS
   refine o_pure hS (.inl rfl) rfl rfl ?_; clear hS
   intro tm hS
   refine o_pure hS (.inl rfl) rfl rfl ?_; clear hS
   intro tm hS
   refine o_nil (hR _ _ ?_)
   clear hR R
   refine wpC.ret ?_
   obtain rfl := Option.some.inj h0
   refine Exists.intro _ (And.intro (rs_tmp hS rfl (rs_tmp hS rfl rs_nil)) ?_)
   have hI := hS.inv
   exact ⟨rfl, (hI.sub sn)⟩
 ·replace h0 := iteF hc h0
  refine c_reg fun R hR => ?_
  refine o_pure hS (.inl rfl) rfl rfl ?_; clear hS
  intro tm hS
  refine o_pure hS (.inl rfl) rfl rfl ?_; clear hS
  intro tm hS
  refine o_nil (hR _ _ ?_)
  clear hR R
  refine c_cond hS rfl (fun hc => ?_) (fun hc => ?_)
  ·replace h0 := iteT hc h0
   refine c_seqS ?_
   refine c_reg fun R hR => ?_
   refine o_pure hS (.inl rfl) rfl rfl ?_; clear hS
   intro tm hS
   refine o_pure hS (.inl rfl) rfl rfl ?_; clear hS
   intro tm hS
   refine o_pure hS (.inl rfl) rfl rfl ?_; clear hS
   intro tm hS
   obtain ⟨c4, hc4⟩ : ∃ x : Bool, x = ((decide (b1 < 0)) && (decide (a1 > (IntKind.i64.wrap (9223372036854775807 + b1))))) := ⟨_, rfl⟩
   refine o_cutN 5 (J := fun tm H => S wm 215 tm H [(42, .bool c4), (1, .int .i64 a1), (2, .int .i64 b1)] [] Fr) ?_ ?_
   ·rcases Bool.eq_false_or_eq_true (decide (b1 < 0)) with hg4 | hg4
    ·refine o_pure hS (.inr ⟨_, _, _, _, rfl, rfl, rfl, hg4⟩) rfl rfl ?_; clear hS
     intro tm hS
     refine o_pure hS (.inr ⟨_, _, _, _, rfl, rfl, rfl, hg4⟩) rfl rfl ?_; clear hS
     intro tm hS
     refine o_pure hS (.inr ⟨_, _, _, _, rfl, rfl, rfl, hg4⟩) rfl rfl ?_; clear hS
     intro tm hS
     refine o_pure hS (.inr ⟨_, _, _, _, rfl, rfl, rfl, hg4⟩) rfl rfl ?_; clear hS
     intro tm hS
     refine o_pickT hS (.inl rfl) rfl rfl hg4 rfl ?_; clear hS
     intro tm hS
     have hc4 : c4 = (decide (a1 > (IntKind.i64.wrap (9223372036854775807 + b1)))) := hc4.trans (by rw [hg4]; first | rfl | simp)
     subst hc4
     exact o_nil (hS.keep (ka_cons rfl (ka_cons rfl (ka_cons rfl ka_nil))) (fun hI => (hI.sub sn)))
    ·refine o_skip hS rfl rfl rfl hg4 ?_; clear hS
     intro tm hS
     refine o_skip hS rfl rfl rfl hg4 ?_; clear hS
     intro tm hS
     refine o_skip hS rfl rfl rfl hg4 ?_; clear hS
     intro tm hS
     refine o_skip hS rfl rfl rfl hg4 ?_; clear hS
     intro tm hS
     refine o_pickF hS (.inl rfl) rfl rfl hg4 rfl ?_; clear hS
     intro tm hS
     have hc4 : c4 = false := hc4.trans (by rw [hg4]; first | rfl | simp)
     subst hc4
     exact o_nil (hS.keep (ka_cons rfl (ka_cons rfl (ka_cons rfl ka_nil))) (fun hI => (hI.sub sn)))
   intro tm H hS
   subst hc4
   refine o_pure hS (.inl rfl) rfl rfl ?_; clear hS
   intro tm hS
   obtain ⟨c5, hc5⟩ : ∃ x : Bool, x = (((decide (b1 < 0)) && (decide (a1 > (IntKind.i64.wrap (9223372036854775807 + b1))))) || ((decide (b1 > 0)) && (decide (a1 < (IntKind.i64.wrap ((-9223372036854775808) + b1)))))) := ⟨_, rfl⟩
   refine o_cutN 9 (J := fun tm H => S wm 215 tm H [(52, .bool c5), (1, .int .i64 a1), (2, .int .i64 b1)] [] Fr) ?_ ?_
   ·rcases Bool.eq_false_or_eq_true ((decide (b1 < 0)) && (decide (a1 > (IntKind.i64.wrap (9223372036854775807 + b1))))) with hg5 | hg5
    ·refine o_skip hS rfl rfl rfl hg5 ?_; clear hS
     intro tm hS
     refine o_skip hS rfl rfl rfl hg5 ?_; clear hS
     intro tm hS
     refine o_skip hS rfl rfl rfl hg5 ?_; clear hS
     intro tm hS
     refine o_skipU hS rfl rfl rfl ?_; clear hS
     intro tm hS
     refine o_skipU hS rfl rfl rfl ?_; clear hS
     intro tm hS
     refine o_skipU hS rfl rfl rfl ?_; clear hS
     intro tm hS
     refine o_skipU hS rfl rfl rfl ?_; clear hS
     intro tm hS
     refine o_skip hS rfl rfl rfl hg5 ?_; clear hS
     intro tm hS
     refine o_pickT hS (.inl rfl) rfl rfl hg5 rfl ?_; clear hS
     intro tm hS
     have hc5 : c5 = true := hc5.trans (by rw [hg5]; first | rfl | simp)
     subst hc5
     exact o_nil (hS.keep (ka_cons rfl (ka_cons rfl (ka_cons rfl ka_nil))) (fun hI => (hI.sub sn)))
    ·refine o_pure hS (.inr ⟨_, _, _, _, rfl, rfl, rfl, hg5⟩) rfl rfl ?_; clear hS
     intro tm hS
     refine o_pure hS (.inr ⟨_, _, _, _, rfl, rfl, rfl, hg5⟩) rfl rfl ?_; clear hS
     intro tm hS
     refine o_pure hS (.inr ⟨_, _, _, _, rfl, rfl, rfl, hg5⟩) rfl rfl ?_; clear hS
     intro tm hS
     obtain ⟨c6, hc6⟩ : ∃ x : Bool, x = ((decide (b1 > 0)) && (decide (a1 < (IntKind.i64.wrap ((-9223372036854775808) + b1))))) := ⟨_, rfl⟩
     refine o_cutN 5 (J := fun tm H => S wm 215 tm H [(51, .bool c6), (1, .int .i64 a1), (2, .int .i64 b1), (43, .bool ((decide (b1 < 0)) && (decide (a1 > (IntKind.i64.wrap (9223372036854775807 + b1))))))] [] Fr) ?_ ?_
     ·rcases Bool.eq_false_or_eq_true (decide (b1 > 0)) with hg6 | hg6
      ·refine o_pure hS (.inr ⟨_, _, _, _, rfl, rfl, rfl, hg6⟩) rfl rfl ?_; clear hS
       intro tm hS
       refine o_pure hS (.inr ⟨_, _, _, _, rfl, rfl, rfl, hg6⟩) rfl rfl ?_; clear hS
       intro tm hS
       refine o_pure hS (.inr ⟨_, _, _, _, rfl, rfl, rfl, hg6⟩) rfl rfl ?_; clear hS
       intro tm hS
       refine o_pure hS (.inr ⟨_, _, _, _, rfl, rfl, rfl, hg6⟩) rfl rfl ?_; clear hS
       intro tm hS
       refine o_pickT hS (.inr ⟨_, _, _, _, rfl, rfl, rfl, hg5⟩) rfl rfl hg6 rfl ?_; clear hS
       intro tm hS
       have hc6 : c6 = (decide (a1 < (IntKind.i64.wrap ((-9223372036854775808) + b1)))) := hc6.trans (by rw [hg6]; first | rfl | simp)
       subst hc6
       exact o_nil (hS.keep (ka_cons rfl (ka_cons rfl (ka_cons rfl (ka_cons rfl ka_nil)))) (fun hI => (hI.sub sn)))
      ·refine o_skip hS rfl rfl rfl hg6 ?_; clear hS
       intro tm hS
       refine o_skip hS rfl rfl rfl hg6 ?_; clear hS
       intro tm hS
       refine o_skip hS rfl rfl rfl hg6 ?_; clear hS
       intro tm hS
       refine o_skip hS rfl rfl rfl hg6 ?_; clear hS
       intro tm hS
       refine o_pickF hS (.inr ⟨_, _, _, _, rfl, rfl, rfl, hg5⟩) rfl rfl hg6 rfl ?_; clear hS
       intro tm hS
       have hc6 : c6 = false := hc6.trans (by rw [hg6]; first | rfl | simp)
       subst hc6
       exact o_nil (hS.keep (ka_cons rfl (ka_cons rfl (ka_cons rfl (ka_cons rfl ka_nil)))) (fun hI => (hI.sub sn)))
     intro tm H hS
     subst hc6
     refine o_pickF hS (.inl rfl) rfl rfl hg5 rfl ?_; clear hS
     intro tm hS
     have hc5 : c5 = ((decide (b1 > 0)) && (decide (a1 < (IntKind.i64.wrap ((-9223372036854775808) + b1))))) := hc5.trans (by rw [hg5]; first | rfl | simp)
     subst hc5
     exact o_nil (hS.keep (ka_cons rfl (ka_cons rfl (ka_cons rfl ka_nil))) (fun hI => (hI.sub sn)))
   intro tm H hS
   subst hc5
   refine o_nil (hR _ _ ?_)
   clear hR R
   refine c_cond hS rfl (fun hc => ?_) (fun hc => ?_)
   ·replace h0 := iteT hc h0
    refine c_reg fun R hR => ?_
    refine o_pure hS (.inl rfl) rfl rfl ?_; clear hS
    intro tm hS
    refine o_pure hS (.inl rfl) rfl rfl ?_; clear hS
    intro tm hS
    refine o_nil (hR _ _ ?_)
    clear hR R
    refine wpC.ret ?_
    obtain rfl := Option.some.inj h0
    refine Exists.intro _ (And.intro (rs_tmp hS rfl (rs_tmp hS rfl rs_nil)) ?_)
    have hI := hS.inv
    exact ⟨rfl, (hI.sub sn)⟩
   ·replace h0 := iteF hc h0
    refine wpC.skip ?_
    refine c_reg fun R hR => ?_
    refine o_pure hS (.inl rfl) rfl rfl ?_; clear hS
    intro tm hS
    refine o_pure hS (.inl rfl) rfl rfl ?_; clear hS
    intro tm hS
    refine o_pure hS (.inl rfl) rfl rfl ?_; clear hS
    intro tm hS
    refine o_pure hS (.inl rfl) rfl rfl ?_; clear hS
    intro tm hS
    refine o_pure hS (.inl rfl) rfl rfl ?_; clear hS
    intro tm hS
    refine o_nil (hR _ _ ?_)
    clear hR R
    refine wpC.ret ?_
    obtain rfl := Option.some.inj h0
    refine Exists.intro _ (And.intro (rs_tmp hS rfl (rs_tmp hS rfl rs_nil)) ?_)
    have hI := hS.inv
    exact ⟨rfl, (hI.sub sn)⟩
  ·replace h0 := iteF hc h0
   refine c_reg fun R hR => ?_
   refine o_pure hS (.inl rfl) rfl rfl ?_; clear hS
   intro tm hS
   refine o_pure hS (.inl rfl) rfl rfl ?_; clear hS
   intro tm hS
   refine o_nil (hR _ _ ?_)
   clear hR R
   refine c_cond hS rfl (fun hc => ?_) (fun hc => ?_)
   ·replace h0 := iteT hc h0
    refine c_reg fun R hR => ?_
    refine o_pure hS (.inl rfl) rfl rfl ?_; clear hS
    intro tm hS
    refine o_pure hS (.inl rfl) rfl rfl ?_; clear hS
    intro tm hS
    obtain ⟨⟨r1, r2⟩, hx1, h0⟩ := bindS h0
    refine o_call hS (.inl rfl) rfl (fun wm' hw1 hw2 => wk123  a1 b1   (hS.sel hw2) hx1) (fun wm' res H hw' hp => ?_)
    obtain ⟨hres, hI⟩ := hp
    replace hres := hres.symm; subst hres
    replace hS : S wm 215 _ H ((60, .tuple #[.int .i64 r1, .bool r2]) :: _) ([] ++ _) Fr := hS.after rfl hw' hI
    clear hI hw'
    refine o_pure hS (.inl rfl) rfl rfl ?_; clear hS
    intro tm hS
    refine o_pure hS (.inl rfl) rfl rfl ?_; clear hS
    intro tm hS
    refine o_pure hS (.inl rfl) rfl rfl ?_; clear hS
    intro tm hS
    refine o_pure hS (.inl rfl) rfl rfl ?_; clear hS
    intro tm hS
    refine o_nil (hR _ _ ?_)
    clear hR R
    refine wpC.ret ?_
    obtain rfl := Option.some.inj h0
    refine Exists.intro _ (And.intro (rs_tmp hS rfl (rs_tmp hS rfl rs_nil)) ?_)
    have hI := hS.inv
    exact ⟨rfl, (hI.sub sn)⟩
   ·replace h0 := iteF hc h0
    refine c_reg fun R hR => ?_
    refine o_pure hS (.inl rfl) rfl rfl ?_; clear hS
    intro tm hS
    refine o_pure hS (.inl rfl) rfl rfl ?_; clear hS
    intro tm hS
    refine o_nil (hR _ _ ?_)
    clear hR R
    refine c_cond hS rfl (fun hc => ?_) (fun hc => ?_)
    ·replace h0 := iteT hc h0
     refine c_seqS ?_
     refine c_reg fun R hR => ?_
     refine o_pure hS (.inl rfl) rfl rfl ?_; clear hS
     intro tm hS
     refine o_pure hS (.inl rfl) rfl rfl ?_; clear hS
     intro tm hS
     refine o_pure hS (.inl rfl) rfl rfl ?_; clear hS
     intro tm hS
     obtain ⟨c7, hc7⟩ : ∃ x : Bool, x = ((a1 == 0) && (b1 == 0)) := ⟨_, rfl⟩
     refine o_cutN 3 (J := fun tm H => S wm 215 tm H [(70, .bool c7), (1, .int .i64 a1), (2, .int .i64 b1)] [] Fr) ?_ ?_
     ·rcases Bool.eq_false_or_eq_true (a1 == 0) with hg7 | hg7
      ·refine o_pure hS (.inr ⟨_, _, _, _, rfl, rfl, rfl, hg7⟩) rfl rfl ?_; clear hS
       intro tm hS
       refine o_pure hS (.inr ⟨_, _, _, _, rfl, rfl, rfl, hg7⟩) rfl rfl ?_; clear hS
       intro tm hS
       refine o_pickT hS (.inl rfl) rfl rfl hg7 rfl ?_; clear hS
       intro tm hS
       have hc7 : c7 = (b1 == 0) := hc7.trans (by rw [hg7]; first | rfl | simp)
       subst hc7
       exact o_nil (hS.keep (ka_cons rfl (ka_cons rfl (ka_cons rfl ka_nil))) (fun hI => (hI.sub sn)))
      ·refine o_skip hS rfl rfl rfl hg7 ?_; clear hS
       intro tm hS
       refine o_skip hS rfl rfl rfl hg7 ?_; clear hS
       intro tm hS
       refine o_pickF hS (.inl rfl) rfl rfl hg7 rfl ?_; clear hS
       intro tm hS
       have hc7 : c7 = false := hc7.trans (by rw [hg7]; first | rfl | simp)
       subst hc7
       exact o_nil (hS.keep (ka_cons rfl (ka_cons rfl (ka_cons rfl ka_nil))) (fun hI => (hI.sub sn)))
     intro tm H hS
     subst hc7
     refine o_nil (hR _ _ ?_)
     clear hR R
     refine c_cond hS rfl (fun hc => ?_) (fun hc => ?_)
     ·replace h0 := iteT hc h0
      refine c_reg fun R hR => ?_
      refine o_pure hS (.inl rfl) rfl rfl ?_; clear hS
      intro tm hS
      refine o_pure hS (.inl rfl) rfl rfl ?_; clear hS
      intro tm hS
      refine o_nil (hR _ _ ?_)
      clear hR R
      refine wpC.ret ?_
      obtain rfl := Option.some.inj h0
      refine Exists.intro _ (And.intro (rs_tmp hS rfl (rs_tmp hS rfl rs_nil)) ?_)
      have hI := hS.inv
      exact ⟨rfl, (hI.sub sn)⟩
     ·replace h0 := iteF hc h0
      refine wpC.skip ?_
      refine c_seqS ?_
      refine c_reg fun R hR => ?_
      refine o_pure hS (.inl rfl) rfl rfl ?_; clear hS
      intro tm hS
      refine o_pure hS (.inl rfl) rfl rfl ?_; clear hS
      intro tm hS
      refine o_pure hS (.inl rfl) rfl rfl ?_; clear hS
      intro tm hS
      obtain ⟨c8, hc8⟩ : ∃ x : Bool, x = ((b1 == 0) || ((a1 == (-9223372036854775808)) && (b1 == (-1)))) := ⟨_, rfl⟩
      refine o_cutN 7 (J := fun tm H => S wm 215 tm H [(80, .bool c8), (1, .int .i64 a1), (2, .int .i64 b1)] [] Fr) ?_ ?_
      ·rcases Bool.eq_false_or_eq_true (b1 == 0) with hg8 | hg8
       ·refine o_skip hS rfl rfl rfl hg8 ?_; clear hS
        intro tm hS
        refine o_skip hS rfl rfl rfl hg8 ?_; clear hS
        intro tm hS
        refine o_skip hS rfl rfl rfl hg8 ?_; clear hS
        intro tm hS
        refine o_skipU hS rfl rfl rfl ?_; clear hS
        intro tm hS
        refine o_skipU hS rfl rfl rfl ?_; clear hS
        intro tm hS
        refine o_skip hS rfl rfl rfl hg8 ?_; clear hS
        intro tm hS
        refine o_pickT hS (.inl rfl) rfl rfl hg8 rfl ?_; clear hS
        intro tm hS
        have hc8 : c8 = true := hc8.trans (by rw [hg8]; first | rfl | simp)
        subst hc8
        exact o_nil (hS.keep (ka_cons rfl (ka_cons rfl (ka_cons rfl ka_nil))) (fun hI => (hI.sub sn)))
       ·refine o_pure hS (.inr ⟨_, _, _, _, rfl, rfl, rfl, hg8⟩) rfl rfl ?_; clear hS
        intro tm hS
        refine o_pure hS (.inr ⟨_, _, _, _, rfl, rfl, rfl, hg8⟩) rfl rfl ?_; clear hS
        intro tm hS
        refine o_pure hS (.inr ⟨_, _, _, _, rfl, rfl, rfl, hg8⟩) rfl rfl ?_; clear hS
        intro tm hS
        obtain ⟨c9, hc9⟩ : ∃ x : Bool, x = ((a1 == (-9223372036854775808)) && (b1 == (-1))) := ⟨_, rfl⟩
        refine o_cutN 3 (J := fun tm H => S wm 215 tm H [(79, .bool c9), (1, .int .i64 a1), (2, .int .i64 b1), (73, .bool (b1 == 0))] [] Fr) ?_ ?_
        ·rcases Bool.eq_false_or_eq_true (a1 == (-9223372036854775808)) with hg9 | hg9
         ·refine o_pure hS (.inr ⟨_, _, _, _, rfl, rfl, rfl, hg9⟩) rfl rfl ?_; clear hS
          intro tm hS
          refine o_pure hS (.inr ⟨_, _, _, _, rfl, rfl, rfl, hg9⟩) rfl rfl ?_; clear hS
          intro tm hS
          refine o_pickT hS (.inr ⟨_, _, _, _, rfl, rfl, rfl, hg8⟩) rfl rfl hg9 rfl ?_; clear hS
          intro tm hS
          have hc9 : c9 = (b1 == (-1)) := hc9.trans (by rw [hg9]; first | rfl | simp)
          subst hc9
          exact o_nil (hS.keep (ka_cons rfl (ka_cons rfl (ka_cons rfl (ka_cons rfl ka_nil)))) (fun hI => (hI.sub sn)))
         ·refine o_skip hS rfl rfl rfl hg9 ?_; clear hS
          intro tm hS
          refine o_skip hS rfl rfl rfl hg9 ?_; clear hS
          intro tm hS
          refine o_pickF hS (.inr ⟨_, _, _, _, rfl, rfl, rfl, hg8⟩) rfl rfl hg9 rfl ?_; clear hS
          intro tm hS
          have hc9 : c9 = false := hc9.trans (by rw [hg9]; first | rfl | simp)
          subst hc9
          exact o_nil (hS.keep (ka_cons rfl (ka_cons rfl (ka_cons rfl (ka_cons rfl ka_nil)))) (fun hI => (hI.sub sn)))
        intro tm H hS
        subst hc9
        refine o_pickF hS (.inl rfl) rfl rfl hg8 rfl ?_; clear hS
        intro tm hS
        have hc8 : c8 = ((a1 == (-9223372036854775808)) && (b1 == (-1))) := hc8.trans (by rw [hg8]; first | rfl | simp)
        subst hc8
        exact o_nil (hS.keep (ka_cons rfl (ka_cons rfl (ka_cons rfl ka_nil))) (fun hI => (hI.sub sn)))
      intro tm H hS
      subst hc8
      refine o_pure hS (.inl rfl) rfl rfl ?_; clear hS
      intro tm hS
      obtain ⟨c10, hc10, h0⟩ := bindS h0
      refine o_cutN 5 (J := fun tm H => S wm 215 tm H [(86, .bool c10), (1, .int .i64 a1), (2, .int .i64 b1)] [] Fr) ?_ ?_
      ·rcases Bool.eq_false_or_eq_true ((b1 == 0) || ((a1 == (-9223372036854775808)) && (b1 == (-1)))) with hg10 | hg10
       ·replace hc10 := iteT hg10 hc10
        refine o_skip hS rfl rfl rfl hg10 ?_; clear hS
        intro tm hS
        refine o_skip hS rfl rfl rfl hg10 ?_; clear hS
        intro tm hS
        refine o_skip hS rfl rfl rfl hg10 ?_; clear hS
        intro tm hS
        refine o_skip hS rfl rfl rfl hg10 ?_; clear hS
        intro tm hS
        refine o_pickT hS (.inl rfl) rfl rfl hg10 rfl ?_; clear hS
        intro tm hS
        obtain rfl := Option.some.inj hc10
        exact o_nil (hS.keep (ka_cons rfl (ka_cons rfl (ka_cons rfl ka_nil))) (fun hI => (hI.sub sn)))
       ·replace hc10 := iteF hg10 hc10
        refine o_pure hS (.inr ⟨_, _, _, _, rfl, rfl, rfl, hg10⟩) rfl rfl ?_; clear hS
        intro tm hS
        refine o_pure hS (.inr ⟨_, _, _, _, rfl, rfl, rfl, hg10⟩) rfl rfl ?_; clear hS
        intro tm hS
        obtain ⟨q1, hx2, hc10⟩ := bindS hc10
        refine o_rem hS (.inr ⟨_, _, _, _, rfl, rfl, rfl, hg10⟩) rfl rfl rfl hx2 ?_; clear hS
        intro tm hS
        refine o_pure hS (.inr ⟨_, _, _, _, rfl, rfl, rfl, hg10⟩) rfl rfl ?_; clear hS
        intro tm hS
        refine o_pickF hS (.inl rfl) rfl rfl hg10 rfl ?_; clear hS
        intro tm hS
        obtain rfl := Option.some.inj hc10
        exact o_nil (hS.keep (ka_cons rfl (ka_cons rfl (ka_cons rfl ka_nil))) (fun hI => (hI.sub sn)))
      intro tm H hS
      refine o_nil (hR _ _ ?_)
      clear hR R
      refine c_cond hS rfl (fun hc => ?_) (fun hc => ?_)
      ·replace h0 := iteT hc h0
       refine c_reg fun R hR => ?_
       refine o_pure hS (.inl rfl) rfl rfl ?_; clear hS
       intro tm hS
       refine o_pure hS (.inl rfl) rfl rfl ?_; clear hS
       intro tm hS
       refine o_nil (hR _ _ ?_)
       clear hR R
       refine wpC.ret ?_
       obtain rfl := Option.some.inj h0
       refine Exists.intro _ (And.intro (rs_tmp hS rfl (rs_tmp hS rfl rs_nil)) ?_)
       have hI := hS.inv
       exact ⟨rfl, (hI.sub sn)⟩
      ·replace h0 := iteF hc h0
       refine wpC.skip ?_
       refine c_reg fun R hR => ?_
       refine o_pure hS (.inl rfl) rfl rfl ?_; clear hS
       intro tm hS
       refine o_pure hS (.inl rfl) rfl rfl ?_; clear hS
       intro tm hS
       obtain ⟨q2, hx3, h0⟩ := bindS h0
       refine o_quo hS (.inl rfl) rfl rfl rfl hx3 ?_; clear hS
       intro tm hS
       refine o_pure hS (.inl rfl) rfl rfl ?_; clear hS
       intro tm hS
       refine o_pure hS (.inl rfl) rfl rfl ?_; clear hS
       intro tm hS
       refine o_nil (hR _ _ ?_)
       clear hR R
       refine wpC.ret ?_
       obtain rfl := Option.some.inj h0
       refine Exists.intro _ (And.intro (rs_tmp hS rfl (rs_tmp hS rfl rs_nil)) ?_)
       have hI := hS.inv
       exact ⟨rfl, (hI.sub sn)⟩
    ·replace h0 := iteF hc h0
     refine c_reg fun R hR => ?_
     refine o_pure hS (.inl rfl) rfl rfl ?_; clear hS
     intro tm hS
     refine o_pure hS (.inl rfl) rfl rfl ?_; clear hS
     intro tm hS
     refine o_nil (hR _ _ ?_)
     clear hR R
     refine c_cond hS rfl (fun hc => ?_) (fun hc => ?_)
     ·replace h0 := iteT hc h0
      refine c_seqS ?_
      refine c_reg fun R hR => ?_
      refine o_pure hS (.inl rfl) rfl rfl ?_; clear hS
      intro tm hS
      refine o_pure hS (.inl rfl) rfl rfl ?_; clear hS
      intro tm hS
      refine o_nil (hR _ _ ?_)
      clear hR R
      refine c_cond hS rfl (fun hc => ?_) (fun hc => ?_)
      ·replace h0 := iteT hc h0
       refine c_reg fun R hR => ?_
       refine o_pure hS (.inl rfl) rfl rfl ?_; clear hS
       intro tm hS
       refine o_pure hS (.inl rfl) rfl rfl ?_; clear hS
       intro tm hS
       refine o_nil (hR _ _ ?_)
       clear hR R
       refine wpC.ret ?_
       obtain rfl := Option.some.inj h0
       refine Exists.intro _ (And.intro (rs_tmp hS rfl (rs_tmp hS rfl rs_nil)) ?_)
       have hI := hS.inv
       exact ⟨rfl, (hI.sub sn)⟩
      ·replace h0 := iteF hc h0
       refine wpC.skip ?_
       refine c_seqS ?_
       refine c_reg fun R hR => ?_
       refine o_pure hS (.inl rfl) rfl rfl ?_; clear hS
       intro tm hS
       refine o_pure hS (.inl rfl) rfl rfl ?_; clear hS
       intro tm hS
       refine o_nil (hR _ _ ?_)
       clear hR R
       refine c_cond hS rfl (fun hc => ?_) (fun hc => ?_)
       ·replace h0 := iteT hc h0
        refine c_reg fun R hR => ?_
        refine o_pure hS (.inl rfl) rfl rfl ?_; clear hS
        intro tm hS
        refine o_pure hS (.inl rfl) rfl rfl ?_; clear hS
        intro tm hS
        obtain ⟨⟨r3, r4⟩, hx4, h0⟩ := bindS h0
        refine o_call hS (.inl rfl) rfl (fun wm' hw1 hw2 => wk124  a1 b1   (hS.sel hw2) hx4) (fun wm' res H hw' hp => ?_)
        obtain ⟨hres, hI⟩ := hp
        replace hres := hres.symm; subst hres
        replace hS : S wm 215 _ H ((98, .tuple #[.int .i64 r3, .bool r4]) :: _) ([] ++ _) Fr := hS.after rfl hw' hI
        clear hI hw'
        refine o_pure hS (.inl rfl) rfl rfl ?_; clear hS
        intro tm hS
        refine o_pure hS (.inl rfl) rfl rfl ?_; clear hS
        intro tm hS
        refine o_pure hS (.inl rfl) rfl rfl ?_; clear hS
        intro tm hS
        refine o_pure hS (.inl rfl) rfl rfl ?_; clear hS
        intro tm hS
        refine o_nil (hR _ _ ?_)
        clear hR R
        refine wpC.ret ?_
        obtain rfl := Option.some.inj h0
        refine Exists.intro _ (And.intro (rs_tmp hS rfl (rs_tmp hS rfl rs_nil)) ?_)
        have hI := hS.inv
        exact ⟨rfl, (hI.sub sn)⟩
       ·replace h0 := iteF hc h0
        refine wpC.skip ?_
        refine c_seqS ?_
        refine c_reg fun R hR => ?_
        refine o_pure hS (.inl rfl) rfl rfl ?_; clear hS
        intro tm hS
        refine o_pure hS (.inl rfl) rfl rfl ?_; clear hS
        intro tm hS
        refine o_pure hS (.inl rfl) rfl rfl ?_; clear hS
        intro tm hS
        obtain ⟨c11, hc11⟩ : ∃ x : Bool, x = ((a1 == 1) || (a1 == (-1))) := ⟨_, rfl⟩
        refine o_cutN 3 (J := fun tm H => S wm 215 tm H [(106, .bool c11), (1, .int .i64 a1), (2, .int .i64 b1)] [] Fr) ?_ ?_
        ·rcases Bool.eq_false_or_eq_true (a1 == 1) with hg11 | hg11
         ·refine o_skip hS rfl rfl rfl hg11 ?_; clear hS
          intro tm hS
          refine o_skip hS rfl rfl rfl hg11 ?_; clear hS
          intro tm hS
          refine o_pickT hS (.inl rfl) rfl rfl hg11 rfl ?_; clear hS
          intro tm hS
          have hc11 : c11 = true := hc11.trans (by rw [hg11]; first | rfl | simp)
          subst hc11
          exact o_nil (hS.keep (ka_cons rfl (ka_cons rfl (ka_cons rfl ka_nil))) (fun hI => (hI.sub sn)))
         ·refine o_pure hS (.inr ⟨_, _, _, _, rfl, rfl, rfl, hg11⟩) rfl rfl ?_; clear hS
          intro tm hS
          refine o_pure hS (.inr ⟨_, _, _, _, rfl, rfl, rfl, hg11⟩) rfl rfl ?_; clear hS
          intro tm hS
          refine o_pickF hS (.inl rfl) rfl rfl hg11 rfl ?_; clear hS
          intro tm hS
          have hc11 : c11 = (a1 == (-1)) := hc11.trans (by rw [hg11]; first | rfl | simp)
          subst hc11
          exact o_nil (hS.keep (ka_cons rfl (ka_cons rfl (ka_cons rfl ka_nil))) (fun hI => (hI.sub sn)))
        intro tm H hS
        subst hc11
        refine o_nil (hR _ _ ?_)
        clear hR R
        refine c_cond hS rfl (fun hc => ?_) (fun hc => ?_)
        ·replace h0 := iteT hc h0
         refine c_reg fun R hR => ?_
         refine o_pure hS (.inl rfl) rfl rfl ?_; clear hS
         intro tm hS
         refine o_pure hS (.inl rfl) rfl rfl ?_; clear hS
         intro tm hS
         refine o_pure hS (.inl rfl) rfl rfl ?_; clear hS
         intro tm hS
         refine o_pure hS (.inl rfl) rfl rfl ?_; clear hS
         intro tm hS
         obtain ⟨⟨r5, r6⟩, hx5, h0⟩ := bindS h0
         refine o_call hS (.inl rfl) rfl (fun wm' hw1 hw2 => wk124  a1 (IntKind.i64.wrap (2 - (Int.tmod b1 2)))   (hS.sel hw2) hx5) (fun wm' res H hw' hp => ?_)
         obtain ⟨hres, hI⟩ := hp
         replace hres := hres.symm; subst hres
         replace hS : S wm 215 _ H ((111, .tuple #[.int .i64 r5, .bool r6]) :: _) ([] ++ _) Fr := hS.after rfl hw' hI
         clear hI hw'
         refine o_pure hS (.inl rfl) rfl rfl ?_; clear hS
         intro tm hS
         refine o_pure hS (.inl rfl) rfl rfl ?_; clear hS
         intro tm hS
         refine o_pure hS (.inl rfl) rfl rfl ?_; clear hS
         intro tm hS
         refine o_pure hS (.inl rfl) rfl rfl ?_; clear hS
         intro tm hS
         refine o_nil (hR _ _ ?_)
         clear hR R
         refine wpC.ret ?_
         obtain rfl := Option.some.inj h0
         refine Exists.intro _ (And.intro (rs_tmp hS rfl (rs_tmp hS rfl rs_nil)) ?_)
         have hI := hS.inv
         exact ⟨rfl, (hI.sub sn)⟩
        ·replace h0 := iteF hc h0
         refine wpC.skip ?_
         refine c_reg fun R hR => ?_
         refine o_pure hS (.inl rfl) rfl rfl ?_; clear hS
         intro tm hS
         refine o_pure hS (.inl rfl) rfl rfl ?_; clear hS
         intro tm hS
         refine o_nil (hR _ _ ?_)
         clear hR R
         refine wpC.ret ?_
         obtain rfl := Option.some.inj h0
         refine Exists.intro _ (And.intro (rs_tmp hS rfl (rs_tmp hS rfl rs_nil)) ?_)
         have hI := hS.inv
         exact ⟨rfl, (hI.sub sn)⟩
     ·replace h0 := iteF hc h0
      refine c_reg fun R hR => ?_
      refine o_pure hS (.inl rfl) rfl rfl ?_; clear hS
      intro tm hS
      refine o_pure hS (.inl rfl) rfl rfl ?_; clear hS
      intro tm hS
      refine o_nil (hR _ _ ?_)
      clear hR R
      refine c_cond hS rfl (fun hc => ?_) (fun hc => ?_)
      ·replace h0 := iteT hc h0
       refine c_seqS ?_
       refine c_reg fun R hR => ?_
       refine o_pure hS (.inl rfl) rfl rfl ?_; clear hS
       intro tm hS
       refine o_pure hS (.inl rfl) rfl rfl ?_; clear hS
       intro tm hS
       refine o_nil (hR _ _ ?_)
       clear hR R
       refine c_cond hS rfl (fun hc => ?_) (fun hc => ?_)
       ·replace h0 := iteT hc h0
        refine c_reg fun R hR => ?_
        refine o_pure hS (.inl rfl) rfl rfl ?_; clear hS
        intro tm hS
        refine o_pure hS (.inl rfl) rfl rfl ?_; clear hS
        intro tm hS
        refine o_pure hS (.inl rfl) rfl rfl ?_; clear hS
        intro tm hS
        refine o_nil (hR _ _ ?_)
        clear hR R
        refine wpC.ret ?_
        obtain rfl := Option.some.inj h0
        refine Exists.intro _ (And.intro (rs_tmp hS rfl (rs_tmp hS rfl rs_nil)) ?_)
        have hI := hS.inv
        exact ⟨rfl, (hI.sub sn)⟩
       ·replace h0 := iteF hc h0
        refine wpC.skip ?_
        refine c_seqS ?_
        refine c_reg fun R hR => ?_
        refine o_pure hS (.inl rfl) rfl rfl ?_; clear hS
        intro tm hS
        refine o_pure hS (.inl rfl) rfl rfl ?_; clear hS
        intro tm hS
        refine o_pure hS (.inl rfl) rfl rfl ?_; clear hS
        intro tm hS
        obtain ⟨c12, hc12⟩ : ∃ x : Bool, x = ((a1 == (-1)) || (a1 == 1)) := ⟨_, rfl⟩
        refine o_cutN 3 (J := fun tm H => S wm 215 tm H [(124, .bool c12), (1, .int .i64 a1), (2, .int .i64 b1)] [] Fr) ?_ ?_
        ·rcases Bool.eq_false_or_eq_true (a1 == (-1)) with hg12 | hg12
         ·refine o_skip hS rfl rfl rfl hg12 ?_; clear hS
          intro tm hS
          refine o_skip hS rfl rfl rfl hg12 ?_; clear hS
          intro tm hS
          refine o_pickT hS (.inl rfl) rfl rfl hg12 rfl ?_; clear hS
          intro tm hS
          have hc12 : c12 = true := hc12.trans (by rw [hg12]; first | rfl | simp)
          subst hc12
          exact o_nil (hS.keep (ka_cons rfl (ka_cons rfl (ka_cons rfl ka_nil))) (fun hI => (hI.sub sn)))
         ·refine o_pure hS (.inr ⟨_, _, _, _, rfl, rfl, rfl, hg12⟩) rfl rfl ?_; clear hS
          intro tm hS
          refine o_pure hS (.inr ⟨_, _, _, _, rfl, rfl, rfl, hg12⟩) rfl rfl ?_; clear hS
          intro tm hS
          refine o_pickF hS (.inl rfl) rfl rfl hg12 rfl ?_; clear hS
          intro tm hS
          have hc12 : c12 = (a1 == 1) := hc12.trans (by rw [hg12]; first | rfl | simp)
          subst hc12
          exact o_nil (hS.keep (ka_cons rfl (ka_cons rfl (ka_cons rfl ka_nil))) (fun hI => (hI.sub sn)))
        intro tm H hS
        subst hc12
        refine o_nil (hR _ _ ?_)
        clear hR R
        refine c_cond hS rfl (fun hc => ?_) (fun hc => ?_)
        ·replace h0 := iteT hc h0
         refine c_reg fun R hR => ?_
         refine o_pure hS (.inl rfl) rfl rfl ?_; clear hS
         intro tm hS
         refine o_pure hS (.inl rfl) rfl rfl ?_; clear hS
         intro tm hS
         refine o_nil (hR _ _ ?_)
         clear hR R
         refine wpC.ret ?_
         obtain rfl := Option.some.inj h0
         refine Exists.intro _ (And.intro (rs_tmp hS rfl (rs_tmp hS rfl rs_nil)) ?_)
         have hI := hS.inv
         exact ⟨rfl, (hI.sub sn)⟩
        ·replace h0 := iteF hc h0
         refine wpC.skip ?_
         refine c_reg fun R hR => ?_
         refine o_pure hS (.inl rfl) rfl rfl ?_; clear hS
         intro tm hS
         refine o_pure hS (.inl rfl) rfl rfl ?_; clear hS
         intro tm hS
         obtain ⟨q3, hx6, h0⟩ := bindS h0
         refine o_rem hS (.inl rfl) rfl rfl rfl hx6 ?_; clear hS
         intro tm hS
         refine o_pure hS (.inl rfl) rfl rfl ?_; clear hS
         intro tm hS
         refine o_nil (hR _ _ ?_)
         clear hR R
         obtain ⟨r7, h1, h0⟩ := bindS h0
         refine c_seqJ (J := fun tm H => (match (generalizing := false) r7 with | r7 => S wm 215 tm H [(8, .int .i64 r7)] [] Fr)) ?_ ?_
         ·refine c_reg fun R hR => ?_
          refine o_pure hS (.inl rfl) rfl rfl ?_; clear hS
          intro tm hS
          refine o_pure hS (.inl rfl) rfl rfl ?_; clear hS
          intro tm hS
          refine o_pure hS (.inl rfl) rfl rfl ?_; clear hS
          intro tm hS
          obtain ⟨c13, hc13⟩ : ∃ x : Bool, x = ((decide (q3 < 0)) && (decide (a1 > 0))) := ⟨_, rfl⟩
          refine o_cutN 3 (J := fun tm H => S wm 215 tm H [(133, .bool c13), (1, .int .i64 a1), (8, .int .i64 q3)] [] Fr) ?_ ?_
          ·rcases Bool.eq_false_or_eq_true (decide (q3 < 0)) with hg13 | hg13
           ·refine o_pure hS (.inr ⟨_, _, _, _, rfl, rfl, rfl, hg13⟩) rfl rfl ?_; clear hS
            intro tm hS
            refine o_pure hS (.inr ⟨_, _, _, _, rfl, rfl, rfl, hg13⟩) rfl rfl ?_; clear hS
            intro tm hS
            refine o_pickT hS (.inl rfl) rfl rfl hg13 rfl ?_; clear hS
            intro tm hS
            have hc13 : c13 = (decide (a1 > 0)) := hc13.trans (by rw [hg13]; first | rfl | simp)
            subst hc13
            exact o_nil (hS.keep (ka_cons rfl (ka_cons rfl (ka_cons rfl ka_nil))) (fun hI => (hI.sub sn)))
           ·refine o_skip hS rfl rfl rfl hg13 ?_; clear hS
            intro tm hS
            refine o_skip hS rfl rfl rfl hg13 ?_; clear hS
            intro tm hS
            refine o_pickF hS (.inl rfl) rfl rfl hg13 rfl ?_; clear hS
            intro tm hS
            have hc13 : c13 = false := hc13.trans (by rw [hg13]; first | rfl | simp)
            subst hc13
            exact o_nil (hS.keep (ka_cons rfl (ka_cons rfl (ka_cons rfl ka_nil))) (fun hI => (hI.sub sn)))
          intro tm H hS
          subst hc13
          refine o_pure hS (.inl rfl) rfl rfl ?_; clear hS
          intro tm hS
          obtain ⟨c14, hc14⟩ : ∃ x : Bool, x = (((decide (q3 < 0)) && (decide (a1 > 0))) || ((decide (q3 > 0)) && (decide (a1 < 0)))) := ⟨_, rfl⟩
          refine o_cutN 7 (J := fun tm H => S wm 215 tm H [(141, .bool c14), (1, .int .i64 a1), (8, .int .i64 q3)] [] Fr) ?_ ?_
          ·rcases Bool.eq_false_or_eq_true ((decide (q3 < 0)) && (decide (a1 > 0))) with hg14 | hg14
           ·refine o_skip hS rfl rfl rfl hg14 ?_; clear hS
            intro tm hS
            refine o_skip hS rfl rfl rfl hg14 ?_; clear hS
            intro tm hS
            refine o_skip hS rfl rfl rfl hg14 ?_; clear hS
            intro tm hS
            refine o_skipU hS rfl rfl rfl ?_; clear hS
            intro tm hS
            refine o_skipU hS rfl rfl rfl ?_; clear hS
            intro tm hS
            refine o_skip hS rfl rfl rfl hg14 ?_; clear hS
            intro tm hS
            refine o_pickT hS (.inl rfl) rfl rfl hg14 rfl ?_; clear hS
            intro tm hS
            have hc14 : c14 = true := hc14.trans (by rw [hg14]; first | rfl | simp)
            subst hc14
            exact o_nil (hS.keep (ka_cons rfl (ka_cons rfl (ka_cons rfl ka_nil))) (fun hI => (hI.sub sn)))
           ·refine o_pure hS (.inr ⟨_, _, _, _, rfl, rfl, rfl, hg14⟩) rfl rfl ?_; clear hS
            intro tm hS
            refine o_pure hS (.inr ⟨_, _, _, _, rfl, rfl, rfl, hg14⟩) rfl rfl ?_; clear hS
            intro tm hS
            refine o_pure hS (.inr ⟨_, _, _, _, rfl, rfl, rfl, hg14⟩) rfl rfl ?_; clear hS
            intro tm hS
            obtain ⟨c15, hc15⟩ : ∃ x : Bool, x = ((decide (q3 > 0)) && (decide (a1 < 0))) := ⟨_, rfl⟩
            refine o_cutN 3 (J := fun tm H => S wm 215 tm H [(140, .bool c15), (1, .int .i64 a1), (8, .int .i64 q3), (134, .bool ((decide (q3 < 0)) && (decide (a1 > 0))))] [] Fr) ?_ ?_
            ·rcases Bool.eq_false_or_eq_true (decide (q3 > 0)) with hg15 | hg15
             ·refine o_pure hS (.inr ⟨_, _, _, _, rfl, rfl, rfl, hg15⟩) rfl rfl ?_; clear hS
              intro tm hS
              refine o_pure hS (.inr ⟨_, _, _, _, rfl, rfl, rfl, hg15⟩) rfl rfl ?_; clear hS
              intro tm hS
              refine o_pickT hS (.inr ⟨_, _, _, _, rfl, rfl, rfl, hg14⟩) rfl rfl hg15 rfl ?_; clear hS
              intro tm hS
              have hc15 : c15 = (decide (a1 < 0)) := hc15.trans (by rw [hg15]; first | rfl | simp)
              subst hc15
              exact o_nil (hS.keep (ka_cons rfl (ka_cons rfl (ka_cons rfl (ka_cons rfl ka_nil)))) (fun hI => (hI.sub sn)))
             ·refine o_skip hS rfl rfl rfl hg15 ?_; clear hS
              intro tm hS
              refine o_skip hS rfl rfl rfl hg15 ?_; clear hS
              intro tm hS
              refine o_pickF hS (.inr ⟨_, _, _, _, rfl, rfl, rfl, hg14⟩) rfl rfl hg15 rfl ?_; clear hS
              intro tm hS
              have hc15 : c15 = false := hc15.trans (by rw [hg15]; first | rfl | simp)
              subst hc15
              exact o_nil (hS.keep (ka_cons rfl (ka_cons rfl (ka_cons rfl (ka_cons rfl ka_nil)))) (fun hI => (hI.sub sn)))
            intro tm H hS
            subst hc15
            refine o_pickF hS (.inl rfl) rfl rfl hg14 rfl ?_; clear hS
            intro tm hS
            have hc14 : c14 = ((decide (q3 > 0)) && (decide (a1 < 0))) := hc14.trans (by rw [hg14]; first | rfl | simp)
            subst hc14
            exact o_nil (hS.keep (ka_cons rfl (ka_cons rfl (ka_cons rfl ka_nil))) (fun hI => (hI.sub sn)))
          intro tm H hS
          subst hc14
          refine o_nil (hR _ _ ?_)
          clear hR R
          refine c_cond hS rfl (fun hc => ?_) (fun hc => ?_)
          ·replace h1 := iteT hc h1
           refine c_reg1 fun R hR => ?_
           refine o_pure hS (.inl rfl) rfl rfl ?_; clear hS
           intro tm hS
           refine o_pure hS (.inl rfl) rfl rfl ?_; clear hS
           intro tm hS
           refine o_pure hS (.inl rfl) rfl rfl ?_; clear hS
           intro tm hS
           refine o_pure hS (.inl rfl) rfl rfl ?_; clear hS
           intro tm hS
           refine o_nil (hR _ _ ?_)
           clear hR R
           obtain rfl := Option.some.inj h1
           change S wm 215 _ _ _ _ Fr; exact hS.keep (ka_cons rfl ka_nil) (fun hI => (hI.sub sn))
          ·replace h1 := iteF hc h1
           refine wpC.skip ?_
           obtain rfl := Option.some.inj h1
           change S wm 215 _ _ _ _ Fr; exact hS.keep (ka_cons rfl ka_nil) (fun hI => (hI.sub sn))
         intro tm H hS
         change S wm 215 tm H [(8, .int .i64 r7)] [] Fr at hS
         refine c_reg fun R hR => ?_
         refine o_pure hS (.inl rfl) rfl rfl ?_; clear hS
         intro tm hS
         refine o_pure hS (.inl rfl) rfl rfl ?_; clear hS
         intro tm hS
         refine o_pure hS (.inl rfl) rfl rfl ?_; clear hS
         intro tm hS
         refine o_nil (hR _ _ ?_)
         clear hR R
         refine wpC.ret ?_
         obtain rfl := Option.some.inj h0
         refine Exists.intro _ (And.intro (rs_tmp hS rfl (rs_tmp hS rfl rs_nil)) ?_)
         have hI := hS.inv
         exact ⟨rfl, (hI.sub sn)⟩
      ·replace h0 := iteF hc h0
       refine c_reg fun R hR => ?_
       refine o_pure hS (.inl rfl) rfl rfl ?_; clear hS
       intro tm hS
       refine o_pure hS (.inl rfl) rfl rfl ?_; clear hS
       intro tm hS
       refine o_nil (hR _ _ ?_)
       clear hR R
       refine c_cond hS rfl (fun hc => ?_) (fun hc => ?_)
       ·replace h0 := iteT hc h0
        refine c_seqS ?_
        refine c_reg fun R hR => ?_
        refine o_pure hS (.inl rfl) rfl rfl ?_; clear hS
        intro tm hS
        refine o_pure hS (.inl rfl) rfl rfl ?_; clear hS
        intro tm hS
        refine o_pure hS (.inl rfl) rfl rfl ?_; clear hS
        intro tm hS
        obtain ⟨c16, hc16⟩ : ∃ x : Bool, x = ((decide (a1 < 0)) || (decide (b1 < 0))) := ⟨_, rfl⟩
        refine o_cutN 3 (J := fun tm H => S wm 215 tm H [(153, .bool c16), (1, .int .i64 a1), (2, .int .i64 b1)] [] Fr) ?_ ?_
        ·rcases Bool.eq_false_or_eq_true (decide (a1 < 0)) with hg16 | hg16
         ·refine o_skip hS rfl rfl rfl hg16 ?_; clear hS
          intro tm hS
          refine o_skip hS rfl rfl rfl hg16 ?_; clear hS
          intro tm hS
          refine o_pickT hS (.inl rfl) rfl rfl hg16 rfl ?_; clear hS
          intro tm hS
          have hc16 : c16 = true := hc16.trans (by rw [hg16]; first | rfl | simp)
          subst hc16
          exact o_nil (hS.keep (ka_cons rfl (ka_cons rfl (ka_cons rfl ka_nil))) (fun hI => (hI.sub sn)))
         ·refine o_pure hS (.inr ⟨_, _, _, _, rfl, rfl, rfl, hg16⟩) rfl rfl ?_; clear hS
          intro tm hS
          refine o_pure hS (.inr ⟨_, _, _, _, rfl, rfl, rfl, hg16⟩) rfl rfl ?_; clear hS
          intro tm hS
          refine o_pickF hS (.inl rfl) rfl rfl hg16 rfl ?_; clear hS
          intro tm hS
          have hc16 : c16 = (decide (b1 < 0)) := hc16.trans (by rw [hg16]; first | rfl | simp)
          subst hc16
          exact o_nil (hS.keep (ka_cons rfl (ka_cons rfl (ka_cons rfl ka_nil))) (fun hI => (hI.sub sn)))
        intro tm H hS
        subst hc16
        refine o_nil (hR _ _ ?_)
        clear hR R
        refine c_cond hS rfl (fun hc => ?_) (fun hc => ?_)
        ·replace h0 := iteT hc h0
         refine c_reg fun R hR => ?_
         refine o_pure hS (.inl rfl) rfl rfl ?_; clear hS
         intro tm hS
         refine o_pure hS (.inl rfl) rfl rfl ?_; clear hS
         intro tm hS
         refine o_nil (hR _ _ ?_)
         clear hR R
         refine wpC.ret ?_
         obtain rfl := Option.some.inj h0
         refine Exists.intro _ (And.intro (rs_tmp hS rfl (rs_tmp hS rfl rs_nil)) ?_)
         have hI := hS.inv
         exact ⟨rfl, (hI.sub sn)⟩
        ·replace h0 := iteF hc h0
         refine wpC.skip ?_
         refine c_reg fun R hR => ?_
         refine o_pure hS (.inl rfl) rfl rfl ?_; clear hS
         intro tm hS
         refine o_pure hS (.inl rfl) rfl rfl ?_; clear hS
         intro tm hS
         obtain ⟨⟨r8, r9⟩, hx7, h0⟩ := bindS h0
         refine o_call hS (.inl rfl) rfl (fun wm' hw1 hw2 => wk125  a1 b1   (hS.sel hw2) hx7) (fun wm' res H hw' hp => ?_)
         obtain ⟨hres, hI⟩ := hp
         replace hres := hres.symm; subst hres
         replace hS : S wm 215 _ H ((156, .tuple #[.int .i64 r8, .bool r9]) :: _) ([] ++ _) Fr := hS.after rfl hw' hI
         clear hI hw'
         refine o_pure hS (.inl rfl) rfl rfl ?_; clear hS
         intro tm hS
         refine o_pure hS (.inl rfl) rfl rfl ?_; clear hS
         intro tm hS
         refine o_pure hS (.inl rfl) rfl rfl ?_; clear hS
         intro tm hS
         refine o_pure hS (.inl rfl) rfl rfl ?_; clear hS
         intro tm hS
         refine o_nil (hR _ _ ?_)
         clear hR R
         refine wpC.ret ?_
         obtain rfl := Option.some.inj h0
         refine Exists.intro _ (And.intro (rs_tmp hS rfl (rs_tmp hS rfl rs_nil)) ?_)
         have hI := hS.inv
         exact ⟨rfl, (hI.sub sn)⟩
       ·replace h0 := iteF hc h0
        refine c_reg fun R hR => ?_
        refine o_pure hS (.inl rfl) rfl rfl ?_; clear hS
        intro tm hS
        refine o_pure hS (.inl rfl) rfl rfl ?_; clear hS
        intro tm hS
        refine o_nil (hR _ _ ?_)
        clear hR R
        refine c_cond hS rfl (fun hc => ?_) (fun hc => ?_)
        ·replace h0 := iteT hc h0
         refine c_seqS ?_
         refine c_reg fun R hR => ?_
         refine o_pure hS (.inl rfl) rfl rfl ?_; clear hS
         intro tm hS
         refine o_pure hS (.inl rfl) rfl rfl ?_; clear hS
         intro tm hS
         refine o_pure hS (.inl rfl) rfl rfl ?_; clear hS
         intro tm hS
         refine o_nil (hR _ _ ?_)
         clear hR R
         refine c_cond hS rfl (fun hc => ?_) (fun hc => ?_)
         ·replace h0 := iteT hc h0
          refine c_reg fun R hR => ?_
          refine o_pure hS (.inl rfl) rfl rfl ?_; clear hS
          intro tm hS
          refine o_pure hS (.inl rfl) rfl rfl ?_; clear hS
          intro tm hS
          refine o_pure hS (.inl rfl) rfl rfl ?_; clear hS
          intro tm hS
          refine o_nil (hR _ _ ?_)
          clear hR R
          refine wpC.ret ?_
          obtain rfl := Option.some.inj h0
          refine Exists.intro _ (And.intro (rs_tmp hS rfl (rs_tmp hS rfl rs_nil)) ?_)
          have hI := hS.inv
          exact ⟨rfl, (hI.sub sn)⟩
         ·replace h0 := iteF hc h0
          refine wpC.skip ?_
          refine c_reg fun R hR => ?_
          refine o_pure hS (.inl rfl) rfl rfl ?_; clear hS
          intro tm hS
          refine o_pure hS (.inl rfl) rfl rfl ?_; clear hS
          intro tm hS
          refine o_pure hS (.inl rfl) rfl rfl ?_; clear hS
          intro tm hS
          refine o_nil (hR _ _ ?_)
          clear hR R
          refine wpC.ret ?_
          obtain rfl := Option.some.inj h0
          refine Exists.intro _ (And.intro (rs_tmp hS rfl (rs_tmp hS rfl rs_nil)) ?_)
          have hI := hS.inv
          exact ⟨rfl, (hI.sub sn)⟩
        ·replace h0 := iteF hc h0
         refine c_reg fun R hR => ?_
         refine o_pure hS (.inl rfl) rfl rfl ?_; clear hS
         intro tm hS
         refine o_pure hS (.inl rfl) rfl rfl ?_; clear hS
         intro tm hS
         refine o_nil (hR _ _ ?_)
         clear hR R
         refine c_cond hS rfl (fun hc => ?_) (fun hc => ?_)
         ·replace h0 := iteT hc h0
          refine c_seqS ?_
          refine c_reg fun R hR => ?_
          refine o_pure hS (.inl rfl) rfl rfl ?_; clear hS
          intro tm hS
          refine o_pure hS (.inl rfl) rfl rfl ?_; clear hS
          intro tm hS
          refine o_pure hS (.inl rfl) rfl rfl ?_; clear hS
          intro tm hS
          refine o_nil (hR _ _ ?_)
          clear hR R
          refine c_cond hS rfl (fun hc => ?_) (fun hc => ?_)
          ·replace h0 := iteT hc h0
           refine c_reg fun R hR => ?_
           refine o_pure hS (.inl rfl) rfl rfl ?_; clear hS
           intro tm hS
           refine o_pure hS (.inl rfl) rfl rfl ?_; clear hS
           intro tm hS
           refine o_pure hS (.inl rfl) rfl rfl ?_; clear hS
           intro tm hS
           refine o_nil (hR _ _ ?_)
           clear hR R
           refine wpC.ret ?_
           obtain rfl := Option.some.inj h0
           refine Exists.intro _ (And.intro (rs_tmp hS rfl (rs_tmp hS rfl rs_nil)) ?_)
           have hI := hS.inv
           exact ⟨rfl, (hI.sub sn)⟩
          ·replace h0 := iteF hc h0
           refine wpC.skip ?_
           refine c_reg fun R hR => ?_
           refine o_pure hS (.inl rfl) rfl rfl ?_; clear hS
           intro tm hS
           refine o_pure hS (.inl rfl) rfl rfl ?_; clear hS
           intro tm hS
           refine o_pure hS (.inl rfl) rfl rfl ?_; clear hS
           intro tm hS
           refine o_nil (hR _ _ ?_)
           clear hR R
           refine wpC.ret ?_
           obtain rfl := Option.some.inj h0
           refine Exists.intro _ (And.intro (rs_tmp hS rfl (rs_tmp hS rfl rs_nil)) ?_)
           have hI := hS.inv
           exact ⟨rfl, (hI.sub sn)⟩
         ·replace h0 := iteF hc h0
          refine c_reg fun R hR => ?_
          refine o_pure hS (.inl rfl) rfl rfl ?_; clear hS
          intro tm hS
          refine o_pure hS (.inl rfl) rfl rfl ?_; clear hS
          intro tm hS
          refine o_nil (hR _ _ ?_)
          clear hR R
          refine c_cond hS rfl (fun hc => ?_) (fun hc => ?_)
          ·replace h0 := iteT hc h0
           refine c_reg fun R hR => ?_
           refine o_pure hS (.inl rfl) rfl rfl ?_; clear hS
           intro tm hS
           refine o_pure hS (.inl rfl) rfl rfl ?_; clear hS
           intro tm hS
           refine o_pure hS (.inl rfl) rfl rfl ?_; clear hS
           intro tm hS
           obtain ⟨r10, hx8, h0⟩ := bindS h0
           refine o_call hS (.inl rfl) rfl (fun wm' hw1 hw2 => wk122  (decide (a1 < b1))   (hS.sel hw2) hx8) (fun wm' res H hw' hp => ?_)
           obtain ⟨hres, hI⟩ := hp
           replace hres := hres.symm; subst hres
           replace hS : S wm 215 _ H ((178, .int .i64 r10) :: _) ([] ++ _) Fr := hS.after rfl hw' hI
           clear hI hw'
           refine o_pure hS (.inl rfl) rfl rfl ?_; clear hS
           intro tm hS
           refine o_pure hS (.inl rfl) rfl rfl ?_; clear hS
           intro tm hS
           refine o_nil (hR _ _ ?_)
           clear hR R
           refine wpC.ret ?_
           obtain rfl := Option.some.inj h0
           refine Exists.intro _ (And.intro (rs_tmp hS rfl (rs_tmp hS rfl rs_nil)) ?_)
           have hI := hS.inv
           exact ⟨rfl, (hI.sub sn)⟩
          ·replace h0 := iteF hc h0
           refine c_reg fun R hR => ?_
           refine o_pure hS (.inl rfl) rfl rfl ?_; clear hS
           intro tm hS
           refine o_pure hS (.inl rfl) rfl rfl ?_; clear hS
           intro tm hS
           refine o_nil (hR _ _ ?_)
           clear hR R
           refine c_cond hS rfl (fun hc => ?_) (fun hc => ?_)
           ·replace h0 := iteT hc h0
            refine c_reg fun R hR => ?_
            refine o_pure hS (.inl rfl) rfl rfl ?_; clear hS
            intro tm hS
            refine o_pure hS (.inl rfl) rfl rfl ?_; clear hS
            intro tm hS
            refine o_pure hS (.inl rfl) rfl rfl ?_; clear hS
            intro tm hS
            obtain ⟨r11, hx9, h0⟩ := bindS h0
            refine o_call hS (.inl rfl) rfl (fun wm' hw1 hw2 => wk122  (decide (a1 ≤ b1))   (hS.sel hw2) hx9) (fun wm' res H hw' hp => ?_)
            obtain ⟨hres, hI⟩ := hp
            replace hres := hres.symm; subst hres
            replace hS : S wm 215 _ H ((184, .int .i64 r11) :: _) ([] ++ _) Fr := hS.after rfl hw' hI
            clear hI hw'
            refine o_pure hS (.inl rfl) rfl rfl ?_; clear hS
            intro tm hS
            refine o_pure hS (.inl rfl) rfl rfl ?_; clear hS
            intro tm hS
            refine o_nil (hR _ _ ?_)
            clear hR R
            refine wpC.ret ?_
            obtain rfl := Option.some.inj h0
            refine Exists.intro _ (And.intro (rs_tmp hS rfl (rs_tmp hS rfl rs_nil)) ?_)
            have hI := hS.inv
            exact ⟨rfl, (hI.sub sn)⟩
           ·replace h0 := iteF hc h0
            refine c_reg fun R hR => ?_
            refine o_pure hS (.inl rfl) rfl rfl ?_; clear hS
            intro tm hS
            refine o_pure hS (.inl rfl) rfl rfl ?_; clear hS
            intro tm hS
            refine o_nil (hR _ _ ?_)
            clear hR R
            refine c_cond hS rfl (fun hc => ?_) (fun hc => ?_)
            ·replace h0 := iteT hc h0
             refine c_reg fun R hR => ?_
             refine o_pure hS (.inl rfl) rfl rfl ?_; clear hS
             intro tm hS
             refine o_pure hS (.inl rfl) rfl rfl ?_; clear hS
             intro tm hS
             refine o_pure hS (.inl rfl) rfl rfl ?_; clear hS
             intro tm hS
             obtain ⟨r12, hx10, h0⟩ := bindS h0
             refine o_call hS (.inl rfl) rfl (fun wm' hw1 hw2 => wk122  (a1 == b1)   (hS.sel hw2) hx10) (fun wm' res H hw' hp => ?_)
             obtain ⟨hres, hI⟩ := hp
             replace hres := hres.symm; subst hres
             replace hS : S wm 215 _ H ((190, .int .i64 r12) :: _) ([] ++ _) Fr := hS.after rfl hw' hI
             clear hI hw'
             refine o_pure hS (.inl rfl) rfl rfl ?_; clear hS
             intro tm hS
             refine o_pure hS (.inl rfl) rfl rfl ?_; clear hS
             intro tm hS
             refine o_nil (hR _ _ ?_)
             clear hR R
             refine wpC.ret ?_
             obtain rfl := Option.some.inj h0
             refine Exists.intro _ (And.intro (rs_tmp hS rfl (rs_tmp hS rfl rs_nil)) ?_)
             have hI := hS.inv
             exact ⟨rfl, (hI.sub sn)⟩
            ·replace h0 := iteF hc h0
             refine c_reg fun R hR => ?_
             refine o_pure hS (.inl rfl) rfl rfl ?_; clear hS
             intro tm hS
             refine o_pure hS (.inl rfl) rfl rfl ?_; clear hS
             intro tm hS
             refine o_nil (hR _ _ ?_)
             clear hR R
             refine c_cond hS rfl (fun hc => ?_) (fun hc => ?_)
             ·replace h0 := iteT hc h0
              refine c_reg fun R hR => ?_
              refine o_pure hS (.inl rfl) rfl rfl ?_; clear hS
              intro tm hS
              refine o_pure hS (.inl rfl) rfl rfl ?_; clear hS
              intro tm hS
              refine o_pure hS (.inl rfl) rfl rfl ?_; clear hS
              intro tm hS
              obtain ⟨r13, hx11, h0⟩ := bindS h0
              refine o_call hS (.inl rfl) rfl (fun wm' hw1 hw2 => wk122  (decide (a1 ≥ b1))   (hS.sel hw2) hx11) (fun wm' res H hw' hp => ?_)
              obtain ⟨hres, hI⟩ := hp
              replace hres := hres.symm; subst hres
              replace hS : S wm 215 _ H ((196, .int .i64 r13) :: _) ([] ++ _) Fr := hS.after rfl hw' hI
              clear hI hw'
              refine o_pure hS (.inl rfl) rfl rfl ?_; clear hS
              intro tm hS
              refine o_pure hS (.inl rfl) rfl rfl ?_; clear hS
              intro tm hS
              refine o_nil (hR _ _ ?_)
              clear hR R
              refine wpC.ret ?_
              obtain rfl := Option.some.inj h0
              refine Exists.intro _ (And.intro (rs_tmp hS rfl (rs_tmp hS rfl rs_nil)) ?_)
              have hI := hS.inv
              exact ⟨rfl, (hI.sub sn)⟩
             ·replace h0 := iteF hc h0
              refine c_reg fun R hR => ?_
              refine o_pure hS (.inl rfl) rfl rfl ?_; clear hS
              intro tm hS
              refine o_pure hS (.inl rfl) rfl rfl ?_; clear hS
              intro tm hS
              refine o_nil (hR _ _ ?_)
              clear hR R
              refine c_cond hS rfl (fun hc => ?_) (fun hc => ?_)
              ·replace h0 := iteT hc h0
               refine c_reg fun R hR => ?_
               refine o_pure hS (.inl rfl) rfl rfl ?_; clear hS
               intro tm hS
               refine o_pure hS (.inl rfl) rfl rfl ?_; clear hS
               intro tm hS
               refine o_pure hS (.inl rfl) rfl rfl ?_; clear hS
               intro tm hS
               obtain ⟨r14, hx12, h0⟩ := bindS h0
               refine o_call hS (.inl rfl) rfl (fun wm' hw1 hw2 => wk122  (decide (a1 > b1))   (hS.sel hw2) hx12) (fun wm' res H hw' hp => ?_)
               obtain ⟨hres, hI⟩ := hp
               replace hres := hres.symm; subst hres
               replace hS : S wm 215 _ H ((202, .int .i64 r14) :: _) ([] ++ _) Fr := hS.after rfl hw' hI
               clear hI hw'
               refine o_pure hS (.inl rfl) rfl rfl ?_; clear hS
               intro tm hS
               refine o_pure hS (.inl rfl) rfl rfl ?_; clear hS
               intro tm hS
               refine o_nil (hR _ _ ?_)
               clear hR R
               refine wpC.ret ?_
               obtain rfl := Option.some.inj h0
               refine Exists.intro _ (And.intro (rs_tmp hS rfl (rs_tmp hS rfl rs_nil)) ?_)
               have hI := hS.inv
               exact ⟨rfl, (hI.sub sn)⟩
              ·replace h0 := iteF hc h0
               refine c_reg fun R hR => ?_
               refine o_pure hS (.inl rfl) rfl rfl ?_; clear hS
               intro tm hS
               refine o_pure hS (.inl rfl) rfl rfl ?_; clear hS
               intro tm hS
               refine o_nil (hR _ _ ?_)
               clear hR R
               refine c_cond hS rfl (fun hc => ?_) (fun hc => ?_)
               ·replace h0 := iteT hc h0
                refine c_reg fun R hR => ?_
                refine o_pure hS (.inl rfl) rfl rfl ?_; clear hS
                intro tm hS
                refine o_pure hS (.inl rfl) rfl rfl ?_; clear hS
                intro tm hS
                refine o_pure hS (.inl rfl) rfl rfl ?_; clear hS
                intro tm hS
                obtain ⟨r15, hx13, h0⟩ := bindS h0
                refine o_call hS (.inl rfl) rfl (fun wm' hw1 hw2 => wk122  (a1 != b1)   (hS.sel hw2) hx13) (fun wm' res H hw' hp => ?_)
                obtain ⟨hres, hI⟩ := hp
                replace hres := hres.symm; subst hres
                replace hS : S wm 215 _ H ((208, .int .i64 r15) :: _) ([] ++ _) Fr := hS.after rfl hw' hI
                clear hI hw'
                refine o_pure hS (.inl rfl) rfl rfl ?_; clear hS
                intro tm hS
                refine o_pure hS (.inl rfl) rfl rfl ?_; clear hS
                intro tm hS
                refine o_nil (hR _ _ ?_)
                clear hR R
                refine wpC.ret ?_
                obtain rfl := Option.some.inj h0
                refine Exists.intro _ (And.intro (rs_tmp hS rfl (rs_tmp hS rfl rs_nil)) ?_)
                have hI := hS.inv
                exact ⟨rfl, (hI.sub sn)⟩
               ·replace h0 := iteF hc h0
                refine wpC.skip ?_
                refine c_reg fun R hR => ?_
                refine o_pure hS (.inl rfl) rfl rfl ?_; clear hS
                intro tm hS
                refine o_pure hS (.inl rfl) rfl rfl ?_; clear hS
                intro tm hS
                refine o_pure hS (.inl rfl) rfl rfl ?_; clear hS
                intro tm hS
                obtain ⟨⟨r16, r17⟩, hx14, h0⟩ := bindS h0
                refine o_call hS (.inl rfl) rfl (fun wm' hw1 hw2 => wk126  fn1 a1 b1   (hS.sel hw2) hx14) (fun wm' res H hw' hp => ?_)
                obtain ⟨hres, hI⟩ := hp
                replace hres := hres.symm; subst hres
                replace hS : S wm 215 _ H ((212, .tuple #[.int .i64 r16, .bool r17]) :: _) ([] ++ _) Fr := hS.after rfl hw' hI
                clear hI hw'
                refine o_pure hS (.inl rfl) rfl rfl ?_; clear hS
                intro tm hS
                refine o_pure hS (.inl rfl) rfl rfl ?_; clear hS
                intro tm hS
                refine o_pure hS (.inl rfl) rfl rfl ?_; clear hS
                intro tm hS
                refine o_pure hS (.inl rfl) rfl rfl ?_; clear hS
                intro tm hS
                refine o_nil (hR _ _ ?_)
                clear hR R
                refine wpC.ret ?_
                obtain rfl := Option.some.inj h0
                refine Exists.intro _ (And.intro (rs_tmp hS rfl (rs_tmp hS rfl rs_nil)) ?_)
                have hI := hS.inv
                exact ⟨rfl, (hI.sub sn)⟩
theorem wk46 {wm : Nat} {H : AHeap} {Fr : List Ent} (ho44 : ora 44 = false) (fn1 : ByteArray) (a1 : Val) (b1 : Val)  (v1 : Value) (v2 : Value) (v3 : Value) (v4 : Value) (hI : Kn wm H [.fz (rI .i64) v1 a1.Shape, .fz (rI .i64) v2 a1.Data, .fz (rI .i64) v3 b1.Shape, .fz (rI .i64) v4 b1.Data] Fr) {r : Val × Int} (h0 : M.anamnesisref06_Dyad fn1 a1 b1 = some r) :
  wpF Try.prog ora wm 46 [.string fn1, .agg #[.bool a1.Char, v1, v2], .agg #[.bool b1.Char, v3, v4]] H (fun res H => ∃ v12 v13, res = .tuple #[.agg #[.bool r.1.Char, v12, v13], .int .i64 r.2] ∧ Kn wm H [.own (rI .i64) v12 r.1.Shape, .own (rI .i64) v13 r.1.Data] Fr) := by
 unfold M.anamnesisref06_Dyad at h0
 refine f_enter (n := 152) Try.func46 rfl (by simp) hI rfl rfl rfl fun tm hS => ?_
 clear hI
 refine c_reg fun R hR => ?_
 refine o_box hS (.inl rfl) rfl rfl rfl (all_cons rfl (all_cons (hS.one (k := 0) rfl (.inl rfl)) (all_cons (hS.one (k := 1) rfl (.inl rfl)) all_nil))) ?_; clear hS H
 intro b2 tm H hS
 refine o_box hS (.inl rfl) rfl rfl rfl (all_cons rfl (all_cons (hS.one (k := 3) rfl (.inl rfl)) (all_cons (hS.one (k := 4) rfl (.inl rfl)) all_nil))) ?_; clear hS H
 intro b3 tm H hS
 refine o_alloc hS (.inl rfl) rfl Fz27 (by decide) ?_; clear hS H
 intro b4 tm H hS
 refine o_pure hS (.inl rfl) rfl rfl ?_; clear hS
 intro tm hS
 refine o_nil (hR _ _ ?_)
 clear hR R
 refine c_seqS ?_
 refine c_reg fun R hR => ?_
 obtain ⟨r1, hx1, h0⟩ := bindS h0
 refine o_call hS (.inl rfl) rfl (fun wm' hw1 hw2 => wk44 ho44    (hS.sel hw2) hx1) (fun wm' res H hw' hp => ?_)
 obtain ⟨v5, hres, hI⟩ := hp
 replace hres := hres.symm; subst hres
 replace hS : S wm 152 _ H ((17, v5) :: _) ([.own rS v5 r1] ++ _) Fr := hS.after rfl hw' hI
 clear hI hw'
 refine o_pure hS (.inl rfl) rfl rfl ?_; clear hS
 intro tm hS
 obtain ⟨r2, hx2, h0⟩ := bindS h0
 refine o_call (Pc := fun _ res H => res = .bool r2 ∧ Kn wm H ([.own rS v5 r1, .box b4 [.bool false, (.slice none 0 0), (.slice none 0 0)], .box b3 [.bool b1.Char, v3, v4], .box b2 [.bool a1.Char, v1, v2], .fz (rI .i64) v1 a1.Shape, .fz (rI .i64) v2 a1.Data, .fz (rI .i64) v3 b1.Shape, .fz (rI .i64) v4 b1.Data]) Fr) hS (.inl rfl) rfl (fun wm' hw1 hw2 => by
  obtain ⟨F2, kk_1, kk_2⟩ := hS.inv.lend (La := [.fz rS v5 r1]) (List.forall_mem_cons.mpr ⟨(.inr ⟨_, _, _, _, rfl, .inl (List.mem_of_getElem? (i := 0) rfl)⟩), (fun _ h => by cases h)⟩) hw1 hw2
  exact (wk47  r1 fn1  v5 kk_1 hx2).mono fun res H2 ⟨qq_1, qq_2⟩ => ⟨qq_1, kk_2 _ qq_2⟩) (fun wm' res H hw' hp => ?_)
 obtain ⟨hres, hI⟩ := hp
 replace hres := hres.symm; subst hres
 replace hS : S wm 152 _ H ((19, .bool r2) :: _) ([.own rS v5 r1, .box b4 [.bool false, (.slice none 0 0), (.slice none 0 0)], .box b3 [.bool b1.Char, v3, v4], .box b2 [.bool a1.Char, v1, v2], .fz (rI .i64) v1 a1.Shape, .fz (rI .i64) v2 a1.Data, .fz (rI .i64) v3 b1.Shape, .fz (rI .i64) v4 b1.Data]) Fr := (hS.put rfl _).withK hI
 clear hI hw'
 refine o_pure hS (.inl rfl) rfl rfl ?_; clear hS
 intro tm hS
 refine o_nil (hR _ _ ?_)
 clear hR R
 refine c_cond hS rfl (fun hc => ?_) (fun hc => ?_)
 ·replace h0 := iteT hc h0
  refine c_reg fun R hR => ?_
  refine o_build hS (.inl rfl) rfl Fb27 rfl .nil rfl ?_; clear hS
  intro tm hS
  refine o_st (k := 1) hS (.inl rfl) rfl rfl rfl Fs27 rfl rfl (all_cons rfl (all_cons rfl (all_cons rfl all_nil))) rfl ?_; clear hS; try clear H
  intro H hS
  refine o_pure hS (.inl rfl) rfl rfl ?_; clear hS
  intro tm hS
  refine o_nil (hR _ _ ?_)
  clear hR R
  refine wpC.ret ?_
  obtain rfl := Option.some.inj h0
  replace hS := hS.nilOwn (rI .i64)
  replace hS := hS.nilOwn (rI .i64)
  refine Exists.intro _ (And.intro (rs_cellA (k := 3) hS rfl rfl (.inl rfl) Fu27 rfl Fs27 rfl (rs_tmp hS rfl rs_nil)) ?_)
  have hI := hS.inv
  exact ⟨(.slice none 0 0), (.slice none 0 0), rfl, (((hI.pull 0 rfl).pull 1 rfl).take 2)⟩
 ·replace h0 := iteF hc h0
  refine wpC.skip ?_
  refine c_seqS ?_
  refine c_reg fun R hR => ?_
  refine o_ldA (k := 3) hS (.inl rfl) rfl rfl rfl (.inl rfl) Fu27 rfl Fs27 rfl ?_; clear hS
  intro tm hS
  obtain ⟨r3, hx3, h0⟩ := bindS h0
  refine o_call hS (.inl rfl) rfl (fun wm' hw1 hw2 => wk77  a1  v1 v2 (((hS.sel hw2).ad 5 rfl).ad 4 rfl) hx3) (fun wm' res H hw' hp => ?_)
  obtain ⟨hres, hI⟩ := hp
  replace hres := hres.symm; subst hres
  replace hS : S wm 152 _ H ((23, .bool r3) :: _) ([] ++ _) Fr := hS.after rfl hw' hI
  clear hI hw'
  refine o_pure hS (.inl rfl) rfl rfl ?_; clear hS
  intro tm hS
  refine o_pure hS (.inl rfl) rfl rfl ?_; clear hS
  intro tm hS
  obtain ⟨c1, hc1, h0⟩ := bindS h0
  refine o_cutN 4 (J := fun tm H => S wm 152 tm H [(29, .bool c1), (0, .string fn1), (4, .pointer (some ⟨b2, 0, none⟩)), (5, .pointer (some ⟨b3, 0, none⟩)), (6, .pointer (some ⟨b4, 0, none⟩))] [.box b4 [.bool false, (.slice none 0 0), (.slice none 0 0)], .box b3 [.bool b1.Char, v3, v4], .box b2 [.bool a1.Char, v1, v2], .fz (rI .i64) v1 a1.Shape, .fz (rI .i64) v2 a1.Data, .fz (rI .i64) v3 b1.Shape, .fz (rI .i64) v4 b1.Data] Fr) ?_ ?_
  ·rcases Bool.eq_false_or_eq_true (!r3) with hg1 | hg1
   ·replace hc1 := iteT hg1 hc1
    refine o_skip hS rfl rfl rfl hg1 ?_; clear hS
    intro tm hS
    refine o_skip hS rfl rfl rfl hg1 ?_; clear hS
    intro tm hS
    refine o_skip hS rfl rfl rfl hg1 ?_; clear hS
    intro tm hS
    refine o_pickT hS (.inl rfl) rfl rfl hg1 rfl ?_; clear hS
    intro tm hS
    obtain rfl := Option.some.inj hc1
    exact o_nil (hS.keep (ka_cons rfl (ka_cons rfl (ka_cons rfl (ka_cons rfl (ka_cons rfl ka_nil))))) (fun hI => (hI.sub (sd (sc (sc (sc (sc (sc (sc (sc sn)))))))))))
   ·replace hc1 := iteF hg1 hc1
    refine o_ldA (k := 2) hS (.inr ⟨_, _, _, _, rfl, rfl, rfl, hg1⟩) rfl rfl rfl (.inl rfl) Fu27 rfl Fs27 rfl ?_; clear hS
    intro tm hS
    obtain ⟨r4, hx4, hc1⟩ := bindS hc1
    refine o_call hS (.inr ⟨_, _, _, _, rfl, rfl, rfl, hg1⟩) rfl (fun wm' hw1 hw2 => wk77  b1  v3 v4 (((hS.sel hw2).ad 7 rfl).ad 6 rfl) hx4) (fun wm' res H hw' hp => ?_)
    obtain ⟨hres, hI⟩ := hp
    replace hres := hres.symm; subst hres
    replace hS : S wm 152 _ H ((27, .bool r4) :: _) ([] ++ _) Fr := hS.after rfl hw' hI
    clear hI hw'
    refine o_pure hS (.inr ⟨_, _, _, _, rfl, rfl, rfl, hg1⟩) rfl rfl ?_; clear hS
    intro tm hS
    refine o_pickF hS (.inl rfl) rfl rfl hg1 rfl ?_; clear hS
    intro tm hS
    obtain rfl := Option.some.inj hc1
    exact o_nil (hS.keep (ka_cons rfl (ka_cons rfl (ka_cons rfl (ka_cons rfl (ka_cons rfl ka_nil))))) (fun hI => (hI.sub (sd (sc (sc (sc (sc (sc (sc (sc sn)))))))))))
  intro tm H hS
  refine o_nil (hR _ _ ?_)
  clear hR R
  refine c_cond hS rfl (fun hc => ?_) (fun hc => ?_)
  ·replace h0 := iteT hc h0
   refine c_reg fun R hR => ?_
   refine o_build hS (.inl rfl) rfl Fb27 rfl .nil rfl ?_; clear hS
   intro tm hS
   refine o_st (k := 0) hS (.inl rfl) rfl rfl rfl Fs27 rfl rfl (all_cons rfl (all_cons rfl (all_cons rfl all_nil))) rfl ?_; clear hS; try clear H
   intro H hS
   refine o_pure hS (.inl rfl) rfl rfl ?_; clear hS
   intro tm hS
   refine o_nil (hR _ _ ?_)
   clear hR R
   refine wpC.ret ?_
   obtain rfl := Option.some.inj h0
   replace hS := hS.nilOwn (rI .i64)
   replace hS := hS.nilOwn (rI .i64)
   refine Exists.intro _ (And.intro (rs_cellA (k := 2) hS rfl rfl (.inl rfl) Fu27 rfl Fs27 rfl (rs_tmp hS rfl rs_nil)) ?_)
   have hI := hS.inv
   exact ⟨(.slice none 0 0), (.slice none 0 0), rfl, (((hI.pull 0 rfl).pull 1 rfl).take 2)⟩
  ·replace h0 := iteF hc h0
   refine wpC.skip ?_
   refine c_reg fun R hR => ?_
   refine o_pure hS (.inl rfl) rfl rfl ?_; clear hS
   intro tm hS
   refine o_nil (hR _ _ ?_)
   clear hR R
   refine c_reg fun R hR => ?_
   refine o_pure hS (.inl rfl) rfl rfl ?_; clear hS
   intro tm hS
   refine o_nil (hR _ _ ?_)
   clear hR R
   obtain ⟨k1, h1, h0⟩ := bindS h0
   refine c_seqJ (J := fun tm H => ∃ st, k1 = .next st ∧ (match (generalizing := false) st with | (s1, n1) => ∃ v6, S wm 152 tm H [(0, .string fn1), (4, .pointer (some ⟨b2, 0, none⟩)), (5, .pointer (some ⟨b3, 0, none⟩)), (6, .pointer (some ⟨b4, 0, none⟩)), (8, v6), (9, .int .i64 n1)] [.box b2 [.bool a1.Char, v1, v2], .box b3 [.bool b1.Char, v3, v4], .box b4 [.bool false, (.slice none 0 0), (.slice none 0 0)], .fz (rI .i64) v6 s1, .fz (rI .i64) v1 a1.Shape, .fz (rI .i64) v2 a1.Data, .fz (rI .i64) v3 b1.Shape, .fz (rI .i64) v4 b1.Data] Fr)) ?_ ?_
   ·refine c_reg fun R hR => ?_
    refine o_pure hS (.inl rfl) rfl rfl ?_; clear hS
    intro tm hS
    refine o_ld1 (k := 2) hS (.inl rfl) rfl rfl rfl (.inl rfl) Fu23 rfl rfl ?_; clear hS
    intro tm hS
    refine o_len (k := 4) (r := (rI .i64)) hS (.inl rfl) rfl rfl rfl (.inl rfl) Fu23 rfl ?_; clear hS
    intro tm hS
    refine o_pure hS (.inl rfl) rfl rfl ?_; clear hS
    intro tm hS
    refine o_pure hS (.inl rfl) rfl rfl ?_; clear hS
    intro tm hS
    obtain ⟨c2, hc2⟩ : ∃ x : Bool, x = (((a1.Data.length : Int) == 1) && ((b1.Data.length : Int) == 1)) := ⟨_, rfl⟩
    refine o_cutN 5 (J := fun tm H => S wm 152 tm H [(40, .bool c2), (0, .string fn1), (4, .pointer (some ⟨b2, 0, none⟩)), (5, .pointer (some ⟨b3, 0, none⟩)), (6, .pointer (some ⟨b4, 0, none⟩))] [.box b4 [.bool false, (.slice none 0 0), (.slice none 0 0)], .box b3 [.bool b1.Char, v3, v4], .box b2 [.bool a1.Char, v1, v2], .fz (rI .i64) v1 a1.Shape, .fz (rI .i64) v2 a1.Data, .fz (rI .i64) v3 b1.Shape, .fz (rI .i64) v4 b1.Data] Fr) ?_ ?_
    ·rcases Bool.eq_false_or_eq_true ((a1.Data.length : Int) == 1) with hg2 | hg2
     ·refine o_pure hS (.inr ⟨_, _, _, _, rfl, rfl, rfl, hg2⟩) rfl rfl ?_; clear hS
      intro tm hS
      refine o_ld1 (k := 1) hS (.inr ⟨_, _, _, _, rfl, rfl, rfl, hg2⟩) rfl rfl rfl (.inl rfl) Fu23 rfl rfl ?_; clear hS
      intro tm hS
      refine o_len (k := 6) (r := (rI .i64)) hS (.inr ⟨_, _, _, _, rfl, rfl, rfl, hg2⟩) rfl rfl rfl (.inl rfl) Fu23 rfl ?_; clear hS
      intro tm hS
      refine o_pure hS (.inr ⟨_, _, _, _, rfl, rfl, rfl, hg2⟩) rfl rfl ?_; clear hS
      intro tm hS
      refine o_pickT hS (.inl rfl) rfl rfl hg2 rfl ?_; clear hS
      intro tm hS
      have hc2 : c2 = ((b1.Data.length : Int) == 1) := hc2.trans (by rw [hg2]; first | rfl | simp)
      subst hc2
      exact o_nil (hS.keep (ka_cons rfl (ka_cons rfl (ka_cons rfl (ka_cons rfl (ka_cons rfl ka_nil))))) (fun hI => (hI.sub (sc (sc (sc (sc (sc (sc (sc sn))))))))))
     ·refine o_skip hS rfl rfl rfl hg2 ?_; clear hS
      intro tm hS
      refine o_skip hS rfl rfl rfl hg2 ?_; clear hS
      intro tm hS
      refine o_skip hS rfl rfl rfl hg2 ?_; clear hS
      intro tm hS
      refine o_skip hS rfl rfl rfl hg2 ?_; clear hS
      intro tm hS
      refine o_pickF hS (.inl rfl) rfl rfl hg2 rfl ?_; clear hS
      intro tm hS
      have hc2 : c2 = false := hc2.trans (by rw [hg2]; first | rfl | simp)
      subst hc2
      exact o_nil (hS.keep (ka_cons rfl (ka_cons rfl (ka_cons rfl (ka_cons rfl (ka_cons rfl ka_nil))))) (fun hI => (hI.sub (sc (sc (sc (sc (sc (sc (sc sn))))))))))
    intro tm H hS
    subst hc2
    refine o_nil (hR _ _ ?_)
    clear hR R
    refine c_cond hS rfl (fun hc => ?_) (fun hc => ?_)
    ·replace h1 := iteT hc h1
     refine c_reg fun R hR => ?_
     refine o_pure hS (.inl rfl) rfl rfl ?_; clear hS
     intro tm hS
     refine o_nil (hR _ _ ?_)
     clear hR R
     refine c_reg fun R hR => ?_
     refine o_pure hS (.inl rfl) rfl rfl ?_; clear hS
     intro tm hS
     refine o_ld1 (k := 2) hS (.inl rfl) rfl rfl rfl (.inl rfl) Fu22 rfl rfl ?_; clear hS
     intro tm hS
     refine o_pure hS (.inl rfl) rfl rfl ?_; clear hS
     intro tm hS
     refine o_nil (hR _ _ ?_)
     clear hR R
     refine c_reg fun R hR => ?_
     refine o_pure hS (.inl rfl) rfl rfl ?_; clear hS
     intro tm hS
     refine o_ld1 (k := 1) hS (.inl rfl) rfl rfl rfl (.inl rfl) Fu22 rfl rfl ?_; clear hS
     intro tm hS
     refine o_len (k := 5) (r := (rI .i64)) hS (.inl rfl) rfl rfl rfl (.inl rfl) Fu22 rfl ?_; clear hS
     intro tm hS
     refine o_pure hS (.inl rfl) rfl rfl ?_; clear hS
     intro tm hS
     refine o_ld1 (k := 2) hS (.inl rfl) rfl rfl rfl (.inl rfl) Fu22 rfl rfl ?_; clear hS
     intro tm hS
     refine o_len (k := 3) (r := (rI .i64)) hS (.inl rfl) rfl rfl rfl (.inl rfl) Fu22 rfl ?_; clear hS
     intro tm hS
     refine o_pure hS (.inl rfl) rfl rfl ?_; clear hS
     intro tm hS
     refine o_nil (hR _ _ ?_)
     clear hR R
     refine c_cond hS rfl (fun hc => ?_) (fun hc => ?_)
     ·replace h1 := iteT hc h1
      refine c_reg1 fun R hR => ?_
      refine o_pure hS (.inl rfl) rfl rfl ?_; clear hS
      intro tm hS
      refine o_ld1 (k := 1) hS (.inl rfl) rfl rfl rfl (.inl rfl) Fu22 rfl rfl ?_; clear hS
      intro tm hS
      refine o_pure hS (.inl rfl) rfl rfl ?_; clear hS
      intro tm hS
      refine o_nil (hR _ _ ?_)
      clear hR R
      obtain rfl := Option.some.inj h1
      refine ⟨_, rfl, ?_⟩
      refine Exists.intro v3 ?_; change S wm 152 _ _ _ _ Fr; exact hS.keep (ka_cons rfl (ka_cons rfl (ka_cons rfl (ka_cons rfl (ka_cons rfl (ka_cons rfl ka_nil)))))) (fun hI => (((((((((hI.pull 6 rfl).pull 6 rfl).pull 6 rfl).pull 6 rfl).dup 2 rfl).pull 5 rfl).pull 6 rfl).pull 7 rfl).take 8))
     ·replace h1 := iteF hc h1
      refine wpC.skip ?_
      obtain rfl := Option.some.inj h1
      refine ⟨_, rfl, ?_⟩
      refine Exists.intro v1 ?_; change S wm 152 _ _ _ _ Fr; exact hS.keep (ka_cons rfl (ka_cons rfl (ka_cons rfl (ka_cons rfl (ka_cons rfl (ka_cons rfl ka_nil)))))) (fun hI => (((((((((hI.pull 6 rfl).pull 6 rfl).pull 6 rfl).pull 6 rfl).dup 0 rfl).pull 5 rfl).pull 6 rfl).pull 7 rfl).take 8))
    ·replace h1 := iteF hc h1
     refine c_reg fun R hR => ?_
     refine o_pure hS (.inl rfl) rfl rfl ?_; clear hS
     intro tm hS
     refine o_ld1 (k := 2) hS (.inl rfl) rfl rfl rfl (.inl rfl) Fu23 rfl rfl ?_; clear hS
     intro tm hS
     refine o_len (k := 4) (r := (rI .i64)) hS (.inl rfl) rfl rfl rfl (.inl rfl) Fu23 rfl ?_; clear hS
     intro tm hS
     refine o_pure hS (.inl rfl) rfl rfl ?_; clear hS
     intro tm hS
     refine o_nil (hR _ _ ?_)
     clear hR R
     refine c_cond hS rfl (fun hc => ?_) (fun hc => ?_)
     ·replace h1 := iteT hc h1
      refine c_reg fun R hR => ?_
      refine o_pure hS (.inl rfl) rfl rfl ?_; clear hS
      intro tm hS
      refine o_ld1 (k := 1) hS (.inl rfl) rfl rfl rfl (.inl rfl) Fu23 rfl rfl ?_; clear hS
      intro tm hS
      refine o_len (k := 6) (r := (rI .i64)) hS (.inl rfl) rfl rfl rfl (.inl rfl) Fu23 rfl ?_; clear hS
      intro tm hS
      refine o_pure hS (.inl rfl) rfl rfl ?_; clear hS
      intro tm hS
      refine o_nil (hR _ _ ?_)
      clear hR R
      refine c_reg1 fun R hR => ?_
      refine o_pure hS (.inl rfl) rfl rfl ?_; clear hS
      intro tm hS
      refine o_ld1 (k := 1) hS (.inl rfl) rfl rfl rfl (.inl rfl) Fu22 rfl rfl ?_; clear hS
      intro tm hS
      refine o_pure hS (.inl rfl) rfl rfl ?_; clear hS
      intro tm hS
      refine o_nil (hR _ _ ?_)
      clear hR R
      obtain rfl := Option.some.inj h1
      refine ⟨_, rfl, ?_⟩
      refine Exists.intro v3 ?_; change S wm 152 _ _ _ _ Fr; exact hS.keep (ka_cons rfl (ka_cons rfl (ka_cons rfl (ka_cons rfl (ka_cons rfl (ka_cons rfl ka_nil)))))) (fun hI => (((((((((hI.pull 6 rfl).pull 6 rfl).pull 6 rfl).pull 6 rfl).dup 2 rfl).pull 5 rfl).pull 6 rfl).pull 7 rfl).take 8))
     ·replace h1 := iteF hc h1
      refine c_reg fun R hR => ?_
      refine o_pure hS (.inl rfl) rfl rfl ?_; clear hS
      intro tm hS
      refine o_ld1 (k := 1) hS (.inl rfl) rfl rfl rfl (.inl rfl) Fu23 rfl rfl ?_; clear hS
      intro tm hS
      refine o_len (k := 6) (r := (rI .i64)) hS (.inl rfl) rfl rfl rfl (.inl rfl) Fu23 rfl ?_; clear hS
      intro tm hS
      refine o_pure hS (.inl rfl) rfl rfl ?_; clear hS
      intro tm hS
      refine o_pure hS (.inl rfl) rfl rfl ?_; clear hS
      intro tm hS
      obtain ⟨c3, hc3, h1⟩ := bindS h1
      refine o_cutN 6 (J := fun tm H => S wm 152 tm H [(71, .bool c3), (0, .string fn1), (4, .pointer (some ⟨b2, 0, none⟩)), (5, .pointer (some ⟨b3, 0, none⟩)), (6, .pointer (some ⟨b4, 0, none⟩))] [.box b4 [.bool false, (.slice none 0 0), (.slice none 0 0)], .box b3 [.bool b1.Char, v3, v4], .box b2 [.bool a1.Char, v1, v2], .fz (rI .i64) v1 a1.Shape, .fz (rI .i64) v2 a1.Data, .fz (rI .i64) v3 b1.Shape, .fz (rI .i64) v4 b1.Data] Fr) ?_ ?_
      ·rcases Bool.eq_false_or_eq_true ((b1.Data.length : Int) == 1) with hg3 | hg3
       ·replace hc3 := iteT hg3 hc3
        refine o_skip hS rfl rfl rfl hg3 ?_; clear hS
        intro tm hS
        refine o_skip hS rfl rfl rfl hg3 ?_; clear hS
        intro tm hS
        refine o_skip hS rfl rfl rfl hg3 ?_; clear hS
        intro tm hS
        refine o_skip hS rfl rfl rfl hg3 ?_; clear hS
        intro tm hS
        refine o_skip hS rfl rfl rfl hg3 ?_; clear hS
        intro tm hS
        refine o_pickT hS (.inl rfl) rfl rfl hg3 rfl ?_; clear hS
        intro tm hS
        obtain rfl := Option.some.inj hc3
        exact o_nil (hS.keep (ka_cons rfl (ka_cons rfl (ka_cons rfl (ka_cons rfl (ka_cons rfl ka_nil))))) (fun hI => (hI.sub (sc (sc (sc (sc (sc (sc (sc sn))))))))))
       ·replace hc3 := iteF hg3 hc3
        refine o_pure hS (.inr ⟨_, _, _, _, rfl, rfl, rfl, hg3⟩) rfl rfl ?_; clear hS
        intro tm hS
        refine o_ld1 (k := 2) hS (.inr ⟨_, _, _, _, rfl, rfl, rfl, hg3⟩) rfl rfl rfl (.inl rfl) Fu22 rfl rfl ?_; clear hS
        intro tm hS
        refine o_pure hS (.inr ⟨_, _, _, _, rfl, rfl, rfl, hg3⟩) rfl rfl ?_; clear hS
        intro tm hS
        refine o_ld1 (k := 1) hS (.inr ⟨_, _, _, _, rfl, rfl, rfl, hg3⟩) rfl rfl rfl (.inl rfl) Fu22 rfl rfl ?_; clear hS
        intro tm hS
        obtain ⟨r5, hx5, hc3⟩ := bindS hc3
        refine o_call hS (.inr ⟨_, _, _, _, rfl, rfl, rfl, hg3⟩) rfl (fun wm' hw1 hw2 => wk79  a1.Shape b1.Shape  v1 v3 (((hS.sel hw2).ad 5 rfl).ad 3 rfl) hx5) (fun wm' res H hw' hp => ?_)
        obtain ⟨hres, hI⟩ := hp
        replace hres := hres.symm; subst hres
        replace hS : S wm 152 _ H ((70, .bool r5) :: _) ([] ++ _) Fr := hS.after rfl hw' hI
        clear hI hw'
        refine o_pickF hS (.inl rfl) rfl rfl hg3 rfl ?_; clear hS
        intro tm hS
        obtain rfl := Option.some.inj hc3
        exact o_nil (hS.keep (ka_cons rfl (ka_cons rfl (ka_cons rfl (ka_cons rfl (ka_cons rfl ka_nil))))) (fun hI => (hI.sub (sc (sc (sc (sc (sc (sc (sc sn))))))))))
      intro tm H hS
      refine o_nil (hR _ _ ?_)
      clear hR R
      refine c_cond hS rfl (fun hc => ?_) (fun hc => ?_)
      ·replace h1 := iteT hc h1
       refine c_reg fun R hR => ?_
       refine o_pure hS (.inl rfl) rfl rfl ?_; clear hS
       intro tm hS
       refine o_ld1 (k := 2) hS (.inl rfl) rfl rfl rfl (.inl rfl) Fu23 rfl rfl ?_; clear hS
       intro tm hS
       refine o_len (k := 4) (r := (rI .i64)) hS (.inl rfl) rfl rfl rfl (.inl rfl) Fu23 rfl ?_; clear hS
       intro tm hS
       refine o_pure hS (.inl rfl) rfl rfl ?_; clear hS
       intro tm hS
       refine o_nil (hR _ _ ?_)
       clear hR R
       refine c_reg1 fun R hR => ?_
       refine o_pure hS (.inl rfl) rfl rfl ?_; clear hS
       intro tm hS
       refine o_ld1 (k := 2) hS (.inl rfl) rfl rfl rfl (.inl rfl) Fu22 rfl rfl ?_; clear hS
       intro tm hS
       refine o_pure hS (.inl rfl) rfl rfl ?_; clear hS
       intro tm hS
       refine o_nil (hR _ _ ?_)
       clear hR R
       obtain rfl := Option.some.inj h1
       refine ⟨_, rfl, ?_⟩
       refine Exists.intro v1 ?_; change S wm 152 _ _ _ _ Fr; exact hS.keep (ka_cons rfl (ka_cons rfl (ka_cons rfl (ka_cons rfl (ka_cons rfl (ka_cons rfl ka_nil)))))) (fun hI => (((((((((hI.pull 6 rfl).pull 6 rfl).pull 6 rfl).pull 6 rfl).dup 0 rfl).pull 5 rfl).pull 6 rfl).pull 7 rfl).take 8))
      ·replace h1 := iteF hc h1
       refine c_reg fun R hR => ?_
       refine o_pure hS (.inl rfl) rfl rfl ?_; clear hS
       intro tm hS
       refine o_ld1 (k := 2) hS (.inl rfl) rfl rfl rfl (.inl rfl) Fu22 rfl rfl ?_; clear hS
       intro tm hS
       refine o_len (k := 3) (r := (rI .i64)) hS (.inl rfl) rfl rfl rfl (.inl rfl) Fu22 rfl ?_; clear hS
       intro tm hS
       refine o_pure hS (.inl rfl) rfl rfl ?_; clear hS
       intro tm hS
       refine o_ld1 (k := 1) hS (.inl rfl) rfl rfl rfl (.inl rfl) Fu22 rfl rfl ?_; clear hS
       intro tm hS
       refine o_len (k := 5) (r := (rI .i64)) hS (.inl rfl) rfl rfl rfl (.inl rfl) Fu22 rfl ?_; clear hS
       intro tm hS
       refine o_pure hS (.inl rfl) rfl rfl ?_; clear hS
       intro tm hS
       refine o_nil (hR _ _ ?_)
       clear hR R
       refine c_cond hS rfl (fun hc => ?_) (fun hc => ?_)
       ·replace h1 := iteT hc h1
        refine c_reg fun R hR => ?_
        refine o_build hS (.inl rfl) rfl Fb27 rfl .nil rfl ?_; clear hS
        intro tm hS
        refine o_st (k := 0) hS (.inl rfl) rfl rfl rfl Fs27 rfl rfl (all_cons rfl (all_cons rfl (all_cons rfl all_nil))) rfl ?_; clear hS; try clear H
        intro H hS
        refine o_pure hS (.inl rfl) rfl rfl ?_; clear hS
        intro tm hS
        refine o_nil (hR _ _ ?_)
        clear hR R
        refine wpC.ret ?_
        obtain rfl := Option.some.inj h1
        obtain rfl := leave h0
        replace hS := hS.nilOwn (rI .i64)
        replace hS := hS.nilOwn (rI .i64)
        refine Exists.intro _ (And.intro (rs_cellA (k := 2) hS rfl rfl (.inl rfl) Fu27 rfl Fs27 rfl (rs_tmp hS rfl rs_nil)) ?_)
        have hI := hS.inv
        exact ⟨(.slice none 0 0), (.slice none 0 0), rfl, (((hI.pull 0 rfl).pull 1 rfl).take 2)⟩
       ·replace h1 := iteF hc h1
        refine c_reg fun R hR => ?_
        refine o_build hS (.inl rfl) rfl Fb27 rfl .nil rfl ?_; clear hS
        intro tm hS
        refine o_st (k := 0) hS (.inl rfl) rfl rfl rfl Fs27 rfl rfl (all_cons rfl (all_cons rfl (all_cons rfl all_nil))) rfl ?_; clear hS; try clear H
        intro H hS
        refine o_pure hS (.inl rfl) rfl rfl ?_; clear hS
        intro tm hS
        refine o_nil (hR _ _ ?_)
        clear hR R
        refine wpC.ret ?_
        obtain rfl := Option.some.inj h1
        obtain rfl := leave h0
        replace hS := hS.nilOwn (rI .i64)
        replace hS := hS.nilOwn (rI .i64)
        refine Exists.intro _ (And.intro (rs_cellA (k := 2) hS rfl rfl (.inl rfl) Fu27 rfl Fs27 rfl (rs_tmp hS rfl rs_nil)) ?_)
        have hI := hS.inv
        exact ⟨(.slice none 0 0), (.slice none 0 0), rfl, (((hI.pull 0 rfl).pull 1 rfl).take 2)⟩
   intro tm H hS
   obtain ⟨st1, rfl, hS⟩ := hS
   replace h0 := joinN h0
   obtain ⟨s1, n1⟩ := st1
   obtain ⟨v6, hS⟩ := hS
   change S wm 152 tm H [(0, .string fn1), (4, .pointer (some ⟨b2, 0, none⟩)), (5, .pointer (some ⟨b3, 0, none⟩)), (6, .pointer (some ⟨b4, 0, none⟩)), (8, v6), (9, .int .i64 n1)] [.box b2 [.bool a1.Char, v1, v2], .box b3 [.bool b1.Char, v3, v4], .box b4 [.bool false, (.slice none 0 0), (.slice none 0 0)], .fz (rI .i64) v6 s1, .fz (rI .i64) v1 a1.Shape, .fz (rI .i64) v2 a1.Data, .fz (rI .i64) v3 b1.Shape, .fz (rI .i64) v4 b1.Data] Fr at hS
   refine c_reg fun R hR => ?_
   refine o_pure hS (.inl rfl) rfl rfl ?_; clear hS
   intro tm hS
   refine o_pure hS (.inl rfl) rfl rfl ?_; clear hS
   intro tm hS
   refine o_pure hS (.inl rfl) rfl rfl ?_; clear hS
   intro tm hS
   obtain ⟨c4, hc4⟩ : ∃ x : Bool, x = ((fn1.toList == str_61.toList) || (fn1.toList == str_226_137_160.toList)) := ⟨_, rfl⟩
   refine o_cutN 3 (J := fun tm H => S wm 152 tm H [(91, .bool c4), (0, .string fn1), (4, .pointer (some ⟨b2, 0, none⟩)), (5, .pointer (some ⟨b3, 0, none⟩)), (6, .pointer (some ⟨b4, 0, none⟩)), (8, v6), (9, .int .i64 n1)] [.box b2 [.bool a1.Char, v1, v2], .box b3 [.bool b1.Char, v3, v4], .box b4 [.bool false, (.slice none 0 0), (.slice none 0 0)], .fz (rI .i64) v6 s1, .fz (rI .i64) v1 a1.Shape, .fz (rI .i64) v2 a1.Data, .fz (rI .i64) v3 b1.Shape, .fz (rI .i64) v4 b1.Data] Fr) ?_ ?_
   ·rcases Bool.eq_false_or_eq_true (fn1.toList == str_61.toList) with hg4 | hg4
    ·refine o_skip hS rfl rfl rfl hg4 ?_; clear hS
     intro tm hS
     refine o_skip hS rfl rfl rfl hg4 ?_; clear hS
     intro tm hS
     refine o_pickT hS (.inl rfl) rfl rfl hg4 rfl ?_; clear hS
     intro tm hS
     have hc4 : c4 = true := hc4.trans (by rw [hg4]; first | rfl | simp)
     subst hc4
     exact o_nil (hS.keep (ka_cons rfl (ka_cons rfl (ka_cons rfl (ka_cons rfl (ka_cons rfl (ka_cons rfl (ka_cons rfl ka_nil))))))) (fun hI => (hI.sub (sc (sc (sc (sc (sc (sc (sc (sc sn)))))))))))
    ·refine o_pure hS (.inr ⟨_, _, _, _, rfl, rfl, rfl, hg4⟩) rfl rfl ?_; clear hS
     intro tm hS
     refine o_pure hS (.inr ⟨_, _, _, _, rfl, rfl, rfl, hg4⟩) rfl rfl ?_; clear hS
     intro tm hS
     refine o_pickF hS (.inl rfl) rfl rfl hg4 rfl ?_; clear hS
     intro tm hS
     have hc4 : c4 = (fn1.toList == str_226_137_160.toList) := hc4.trans (by rw [hg4]; first | rfl | simp)
     subst hc4
     exact o_nil (hS.keep (ka_cons rfl (ka_cons rfl (ka_cons rfl (ka_cons rfl (ka_cons rfl (ka_cons rfl (ka_cons rfl ka_nil))))))) (fun hI => (hI.sub (sc (sc (sc (sc (sc (sc (sc (sc sn)))))))))))
   intro tm H hS
   subst hc4
   refine o_pure hS (.inl rfl) rfl rfl ?_; clear hS
   intro tm hS
   refine o_nil (hR _ _ ?_)
   clear hR R
   refine c_seqS ?_
   refine c_reg fun R hR => ?_
   refine o_pure hS (.inl rfl) rfl rfl ?_; clear hS
   intro tm hS
   refine o_ld1 (k := 0) hS (.inl rfl) rfl rfl rfl (.inl rfl) Fu4 rfl rfl ?_; clear hS
   intro tm hS
   refine o_pure hS (.inl rfl) rfl rfl ?_; clear hS
   intro tm hS
   obtain ⟨c5, hc5⟩ : ∃ x : Bool, x = (a1.Char || b1.Char) := ⟨_, rfl⟩
   refine o_cutN 3 (J := fun tm H => S wm 152 tm H [(97, .bool c5), (0, .string fn1), (4, .pointer (some ⟨b2, 0, none⟩)), (5, .pointer (some ⟨b3, 0, none⟩)), (6, .pointer (some ⟨b4, 0, none⟩)), (8, v6), (9, .int .i64 n1), (10, .bool ((fn1.toList == str_61.toList) || (fn1.toList == str_226_137_160.toList)))] [.box b2 [.bool a1.Char, v1, v2], .box b3 [.bool b1.Char, v3, v4], .box b4 [.bool false, (.slice none 0 0), (.slice none 0 0)], .fz (rI .i64) v6 s1, .fz (rI .i64) v1 a1.Shape, .fz (rI .i64) v2 a1.Data, .fz (rI .i64) v3 b1.Shape, .fz (rI .i64) v4 b1.Data] Fr) ?_ ?_
   ·rcases Bool.eq_false_or_eq_true a1.Char with hg5 | hg5
    ·refine o_skip hS rfl rfl rfl hg5 ?_; clear hS
     intro tm hS
     refine o_skip hS rfl rfl rfl hg5 ?_; clear hS
     intro tm hS
     refine o_pickT hS (.inl rfl) rfl rfl hg5 rfl ?_; clear hS
     intro tm hS
     have hc5 : c5 = true := hc5.trans (by rw [hg5]; first | rfl | simp)
     subst hc5
     exact o_nil (hS.keep (ka_cons rfl (ka_cons rfl (ka_cons rfl (ka_cons rfl (ka_cons rfl (ka_cons rfl (ka_cons rfl (ka_cons rfl ka_nil)))))))) (fun hI => (hI.sub (sc (sc (sc (sc (sc (sc (sc (sc sn)))))))))))
    ·refine o_pure hS (.inr ⟨_, _, _, _, rfl, rfl, rfl, hg5⟩) rfl rfl ?_; clear hS
     intro tm hS
     refine o_ld1 (k := 1) hS (.inr ⟨_, _, _, _, rfl, rfl, rfl, hg5⟩) rfl rfl rfl (.inl rfl) Fu4 rfl rfl ?_; clear hS
     intro tm hS
     refine o_pickF hS (.inl rfl) rfl rfl hg5 rfl ?_; clear hS
     intro tm hS
     have hc5 : c5 = b1.Char := hc5.trans (by rw [hg5]; first | rfl | simp)
     subst hc5
     exact o_nil (hS.keep (ka_cons rfl (ka_cons rfl (ka_cons rfl (ka_cons rfl (ka_cons rfl (ka_cons rfl (ka_cons rfl (ka_cons rfl ka_nil)))))))) (fun hI => (hI.sub (sc (sc (sc (sc (sc (sc (sc (sc sn)))))))))))
   intro tm H hS
   subst hc5
   refine o_pure hS (.inl rfl) rfl rfl ?_; clear hS
   intro tm hS
   obtain ⟨c6, hc6⟩ : ∃ x : Bool, x = ((a1.Char || b1.Char) && (!((fn1.toList == str_61.toList) || (fn1.toList == str_226_137_160.toList)))) := ⟨_, rfl⟩
   refine o_cutN 3 (J := fun tm H => S wm 152 tm H [(101, .bool c6), (0, .string fn1), (4, .pointer (some ⟨b2, 0, none⟩)), (5, .pointer (some ⟨b3, 0, none⟩)), (6, .pointer (some ⟨b4, 0, none⟩)), (8, v6), (9, .int .i64 n1)] [.box b2 [.bool a1.Char, v1, v2], .box b3 [.bool b1.Char, v3, v4], .box b4 [.bool false, (.slice none 0 0), (.slice none 0 0)], .fz (rI .i64) v6 s1, .fz (rI .i64) v1 a1.Shape, .fz (rI .i64) v2 a1.Data, .fz (rI .i64) v3 b1.Shape, .fz (rI .i64) v4 b1.Data] Fr) ?_ ?_
   ·rcases Bool.eq_false_or_eq_true (a1.Char || b1.Char) with hg6 | hg6
    ·refine o_pure hS (.inr ⟨_, _, _, _, rfl, rfl, rfl, hg6⟩) rfl rfl ?_; clear hS
     intro tm hS
     refine o_pure hS (.inr ⟨_, _, _, _, rfl, rfl, rfl, hg6⟩) rfl rfl ?_; clear hS
     intro tm hS
     refine o_pickT hS (.inl rfl) rfl rfl hg6 rfl ?_; clear hS
     intro tm hS
     have hc6 : c6 = (!((fn1.toList == str_61.toList) || (fn1.toList == str_226_137_160.toList))) := hc6.trans (by rw [hg6]; first | rfl | simp)
     subst hc6
     exact o_nil (hS.keep (ka_cons rfl (ka_cons rfl (ka_cons rfl (ka_cons rfl (ka_cons rfl (ka_cons rfl (ka_cons rfl ka_nil))))))) (fun hI => (hI.sub (sc (sc (sc (sc (sc (sc (sc (sc sn)))))))))))
    ·refine o_skip hS rfl rfl rfl hg6 ?_; clear hS
     intro tm hS
     refine o_skip hS rfl rfl rfl hg6 ?_; clear hS
     intro tm hS
     refine o_pickF hS (.inl rfl) rfl rfl hg6 rfl ?_; clear hS
     intro tm hS
     have hc6 : c6 = false := hc6.trans (by rw [hg6]; first | rfl | simp)
     subst hc6
     exact o_nil (hS.keep (ka_cons rfl (ka_cons rfl (ka_cons rfl (ka_cons rfl (ka_cons rfl (ka_cons rfl (ka_cons rfl ka_nil))))))) (fun hI => (hI.sub (sc (sc (sc (sc (sc (sc (sc (sc sn)))))))))))
   intro tm H hS
   subst hc6
   refine o_nil (hR _ _ ?_)
   clear hR R
   refine c_cond hS rfl (fun hc => ?_) (fun hc => ?_)
   ·replace h0 := iteT hc h0
    refine c_reg fun R hR => ?_
    refine o_build hS (.inl rfl) rfl Fb27 rfl .nil rfl ?_; clear hS
    intro tm hS
    refine o_st (k := 2) hS (.inl rfl) rfl rfl rfl Fs27 rfl rfl (all_cons rfl (all_cons rfl (all_cons rfl all_nil))) rfl ?_; clear hS; try clear H
    intro H hS
    refine o_pure hS (.inl rfl) rfl rfl ?_; clear hS
    intro tm hS
    refine o_nil (hR _ _ ?_)
    clear hR R
    refine wpC.ret ?_
    obtain rfl := Option.some.inj h0
    replace hS := hS.nilOwn (rI .i64)
    replace hS := hS.nilOwn (rI .i64)
    refine Exists.intro _ (And.intro (rs_cellA (k := 4) hS rfl rfl (.inl rfl) Fu27 rfl Fs27 rfl (rs_tmp hS rfl rs_nil)) ?_)
    have hI := hS.inv
    exact ⟨(.slice none 0 0), (.slice none 0 0), rfl, (((hI.pull 0 rfl).pull 1 rfl).take 2)⟩
   ·replace h0 := iteF hc h0
    refine wpC.skip ?_
    refine c_reg fun R hR => ?_
    refine o_lit (r := (rI .i64)) (l := ([] : List Int)) hS (.inl rfl) rfl Fl22 rfl rfl rfl .nil rfl rfl ri_nil rfl ?_; clear hS H
    intro v7 tm H hS
    refine o_pure hS (.inl rfl) rfl rfl ?_; clear hS
    intro tm hS
    obtain ⟨l1, hx6, h0⟩ := bindS h0
    refine o_appL (k1 := 0) (k2 := 4) (r := (rI .i64)) hS (.inl rfl) rfl rfl rfl rfl rfl (.inl rfl) rfl Fe22_22 hx6 ?_; clear hS H
    intro v8 tm H hS
    refine o_build hS (.inl rfl) rfl Fb27 rfl (.cons (cells_one (hS.one (k := 0) rfl (.inr (.inl rfl)))) .nil) rfl ?_; clear hS
    intro tm hS
    refine o_alloc hS (.inl rfl) rfl Fz27 (by decide) ?_; clear hS H
    intro b5 tm H hS
    refine o_st (k := 0) hS (.inl rfl) rfl rfl rfl Fs27 rfl rfl (all_cons rfl (all_cons (hS.one (k := 1) rfl (.inr (.inl rfl))) (all_cons rfl all_nil))) rfl ?_; clear hS; try clear H
    intro H hS
    refine o_nil (hR _ _ ?_)
    clear hR R
    refine c_seqS ?_
    refine c_reg fun R hR => ?_
    refine o_pure hS (.inl rfl) rfl rfl ?_; clear hS
    intro tm hS
    refine o_nil (hR _ _ ?_)
    clear hR R
    obtain ⟨k2, hw1, h0⟩ := bindS h0
    refine wpC.block ?_
    replace hS := hS.nilOwn (rI .i64)
    refine c_loop (I := fun (s : Int × (List Int)) tm H => match (generalizing := false) s with | (i1, Data1) => ∃ v9, S wm 152 tm H [(0, .string fn1), (4, .pointer (some ⟨b2, 0, none⟩)), (5, .pointer (some ⟨b3, 0, none⟩)), (6, .pointer (some ⟨b4, 0, none⟩)), (9, .int .i64 n1), (11, .pointer (some ⟨b5, 0, none⟩)), (12, .int .i64 i1)] [.box b2 [.bool a1.Char, v1, v2], .box b3 [.bool b1.Char, v3, v4], .box b4 [.bool false, (.slice none 0 0), (.slice none 0 0)], .box b5 [.bool false, v8, v9], .own (rI .i64) v9 Data1, .fz (rI .i64) v1 a1.Shape, .fz (rI .i64) v2 a1.Data, .fz (rI .i64) v3 b1.Shape, .fz (rI .i64) v4 b1.Data, .own (rI .i64) v8 l1] Fr) hw1 (by refine Exists.intro (.slice none 0 0) ?_; change S wm 152 _ _ _ _ Fr; exact hS.keep (ka_cons rfl (ka_cons rfl (ka_cons rfl (ka_cons rfl (ka_cons rfl (ka_cons rfl (ka_cons rfl ka_nil))))))) (fun hI => (((((((((((hI.pull 2 rfl).pull 10 rfl).pull 10 rfl).pull 10 rfl).pull 10 rfl).pull 5 rfl).pull 6 rfl).pull 9 rfl).pull 9 rfl).pull 9 rfl).take 10))) ?_
    clear hS
    intro s2 tm H c7 hS h4 hq4
    obtain ⟨i1, Data1⟩ := s2
    obtain ⟨v9, hS⟩ := hS
    change S wm 152 tm H [(0, .string fn1), (4, .pointer (some ⟨b2, 0, none⟩)), (5, .pointer (some ⟨b3, 0, none⟩)), (6, .pointer (some ⟨b4, 0, none⟩)), (9, .int .i64 n1), (11, .pointer (some ⟨b5, 0, none⟩)), (12, .int .i64 i1)] [.box b2 [.bool a1.Char, v1, v2], .box b3 [.bool b1.Char, v3, v4], .box b4 [.bool false, (.slice none 0 0), (.slice none 0 0)], .box b5 [.bool false, v8, v9], .own (rI .i64) v9 Data1, .fz (rI .i64) v1 a1.Shape, .fz (rI .i64) v2 a1.Data, .fz (rI .i64) v3 b1.Shape, .fz (rI .i64) v4 b1.Data, .own (rI .i64) v8 l1] Fr at hS
    refine c_seqS ?_
    refine c_reg fun R hR => ?_
    refine o_pure hS (.inl rfl) rfl rfl ?_; clear hS
    intro tm hS
    refine o_pure hS (.inl rfl) rfl rfl ?_; clear hS
    intro tm hS
    refine o_pure hS (.inl rfl) rfl rfl ?_; clear hS
    intro tm hS
    refine o_nil (hR _ _ ?_)
    clear hR R
    refine c_cond hS rfl (fun hc => ?_) (fun hc => ?_)
    ·replace h4 := iteT hc h4
     refine wpC.skip ?_
     refine c_seqS ?_
     refine wpC.block ?_
     refine c_reg fun R hR => ?_
     refine o_pure hS (.inl rfl) rfl rfl ?_; clear hS
     intro tm hS
     refine o_ld1 (k := 0) hS (.inl rfl) rfl rfl rfl (.inl rfl) Fu23 rfl rfl ?_; clear hS
     intro tm hS
     refine o_pure hS (.inl rfl) rfl rfl ?_; clear hS
     intro tm hS
     refine o_pure hS (.inl rfl) rfl rfl ?_; clear hS
     intro tm hS
     refine o_ld1 (k := 0) hS (.inl rfl) rfl rfl rfl (.inl rfl) Fu23 rfl rfl ?_; clear hS
     intro tm hS
     refine o_len (k := 6) (r := (rI .i64)) hS (.inl rfl) rfl rfl rfl (.inl rfl) Fu23 rfl ?_; clear hS
     intro tm hS
     obtain ⟨q1, hx7, h4⟩ := bindS h4
     refine o_rem hS (.inl rfl) rfl rfl rfl hx7 ?_; clear hS
     intro tm hS
     obtain ⟨y1, hx8, h4⟩ := bindS h4
     refine o_ixA (k := 6) (r := (rI .i64)) hS (.inl rfl) rfl rfl rfl rfl (.inl rfl) Fu23 Fs2 hx8 ?_; clear hS
     intro tm hS
     refine o_ldF (r := (rI .i64)) (k := 6) hS (.inl rfl) rfl rfl rfl (.inl rfl) hx8 Fu2 rfl (flat_I _) rfl ?_; clear hS
     intro tm hS
     refine o_pure hS (.inl rfl) rfl rfl ?_; clear hS
     intro tm hS
     refine o_nil (hR _ _ ?_)
     clear hR R
     refine c_reg fun R hR => ?_
     refine o_pure hS (.inl rfl) rfl rfl ?_; clear hS
     intro tm hS
     refine o_ld1 (k := 1) hS (.inl rfl) rfl rfl rfl (.inl rfl) Fu23 rfl rfl ?_; clear hS
     intro tm hS
     refine o_pure hS (.inl rfl) rfl rfl ?_; clear hS
     intro tm hS
     refine o_pure hS (.inl rfl) rfl rfl ?_; clear hS
     intro tm hS
     refine o_ld1 (k := 1) hS (.inl rfl) rfl rfl rfl (.inl rfl) Fu23 rfl rfl ?_; clear hS
     intro tm hS
     refine o_len (k := 8) (r := (rI .i64)) hS (.inl rfl) rfl rfl rfl (.inl rfl) Fu23 rfl ?_; clear hS
     intro tm hS
     obtain ⟨q2, hx9, h4⟩ := bindS h4
     refine o_rem hS (.inl rfl) rfl rfl rfl hx9 ?_; clear hS
     intro tm hS
     obtain ⟨y2, hx10, h4⟩ := bindS h4
     refine o_ixA (k := 8) (r := (rI .i64)) hS (.inl rfl) rfl rfl rfl rfl (.inl rfl) Fu23 Fs2 hx10 ?_; clear hS
     intro tm hS
     refine o_ldF (r := (rI .i64)) (k := 8) hS (.inl rfl) rfl rfl rfl (.inl rfl) hx10 Fu2 rfl (flat_I _) rfl ?_; clear hS
     intro tm hS
     refine o_pure hS (.inl rfl) rfl rfl ?_; clear hS
     intro tm hS
     refine o_nil (hR _ _ ?_)
     clear hR R
     obtain ⟨k3, h6, h4⟩ := bindS h4
     refine c_seqJ (J := fun tm H => (match (generalizing := false) k3 with | (x1, y3) => S wm 152 tm H [(0, .string fn1), (4, .pointer (some ⟨b2, 0, none⟩)), (5, .pointer (some ⟨b3, 0, none⟩)), (6, .pointer (some ⟨b4, 0, none⟩)), (9, .int .i64 n1), (11, .pointer (some ⟨b5, 0, none⟩)), (12, .int .i64 i1), (13, .int .i64 x1), (14, .int .i64 y3)] [.box b2 [.bool a1.Char, v1, v2], .box b3 [.bool b1.Char, v3, v4], .box b4 [.bool false, (.slice none 0 0), (.slice none 0 0)], .box b5 [.bool false, v8, v9], .fz (rI .i64) v1 a1.Shape, .fz (rI .i64) v2 a1.Data, .fz (rI .i64) v3 b1.Shape, .fz (rI .i64) v4 b1.Data, .own (rI .i64) v8 l1, .own (rI .i64) v9 Data1] Fr)) ?_ ?_
     ·refine c_reg fun R hR => ?_
      refine o_pure hS (.inl rfl) rfl rfl ?_; clear hS
      intro tm hS
      refine o_ld1 (k := 0) hS (.inl rfl) rfl rfl rfl (.inl rfl) Fu4 rfl rfl ?_; clear hS
      intro tm hS
      refine o_pure hS (.inl rfl) rfl rfl ?_; clear hS
      intro tm hS
      refine o_ld1 (k := 1) hS (.inl rfl) rfl rfl rfl (.inl rfl) Fu4 rfl rfl ?_; clear hS
      intro tm hS
      refine o_pure hS (.inl rfl) rfl rfl ?_; clear hS
      intro tm hS
      refine o_nil (hR _ _ ?_)
      clear hR R
      refine c_cond hS rfl (fun hc => ?_) (fun hc => ?_)
      ·replace h6 := iteT hc h6
       refine c_reg fun R hR => ?_
       refine o_pure hS (.inl rfl) rfl rfl ?_; clear hS
       intro tm hS
       refine o_nil (hR _ _ ?_)
       clear hR R
       refine c_reg1 fun R hR => ?_
       refine o_pure hS (.inl rfl) rfl rfl ?_; clear hS
       intro tm hS
       refine o_nil (hR _ _ ?_)
       clear hR R
       obtain rfl := Option.some.inj h6
       change S wm 152 _ _ _ _ Fr; exact hS.keep (ka_cons rfl (ka_cons rfl (ka_cons rfl (ka_cons rfl (ka_cons rfl (ka_cons rfl (ka_cons rfl (ka_cons rfl (ka_cons rfl ka_nil))))))))) (fun hI => (((((((((((hI.pull 4 rfl).pull 9 rfl).pull 9 rfl).pull 9 rfl).pull 9 rfl).pull 9 rfl).pull 9 rfl).pull 9 rfl).pull 9 rfl).pull 9 rfl).take 10))
      ·replace h6 := iteF hc h6
       refine wpC.skip ?_
       obtain rfl := Option.some.inj h6
       change S wm 152 _ _ _ _ Fr; exact hS.keep (ka_cons rfl (ka_cons rfl (ka_cons rfl (ka_cons rfl (ka_cons rfl (ka_cons rfl (ka_cons rfl (ka_cons rfl (ka_cons rfl ka_nil))))))))) (fun hI => (((((((((((hI.pull 4 rfl).pull 9 rfl).pull 9 rfl).pull 9 rfl).pull 9 rfl).pull 9 rfl).pull 9 rfl).pull 9 rfl).pull 9 rfl).pull 9 rfl).take 10))
     intro tm H hS
     obtain ⟨x1, y3⟩ := k3
     change S wm 152 tm H [(0, .string fn1), (4, .pointer (some ⟨b2, 0, none⟩)), (5, .pointer (some ⟨b3, 0, none⟩)), (6, .pointer (some ⟨b4, 0, none⟩)), (9, .int .i64 n1), (11, .pointer (some ⟨b5, 0, none⟩)), (12, .int .i64 i1), (13, .int .i64 x1), (14, .int .i64 y3)] [.box b2 [.bool a1.Char, v1, v2], .box b3 [.bool b1.Char, v3, v4], .box b4 [.bool false, (.slice none 0 0), (.slice none 0 0)], .box b5 [.bool false, v8, v9], .fz (rI .i64) v1 a1.Shape, .fz (rI .i64) v2 a1.Data, .fz (rI .i64) v3 b1.Shape, .fz (rI .i64) v4 b1.Data, .own (rI .i64) v8 l1, .own (rI .i64) v9 Data1] Fr at hS
     refine c_reg fun R hR => ?_
     refine o_pure hS (.inl rfl) rfl rfl ?_; clear hS
     intro tm hS
     refine o_pure hS (.inl rfl) rfl rfl ?_; clear hS
     intro tm hS
     refine o_pure hS (.inl rfl) rfl rfl ?_; clear hS
     intro tm hS
     obtain ⟨⟨r6, r7⟩, hx11, h4⟩ := bindS h4
     refine o_call hS (.inl rfl) rfl (fun wm' hw1 hw2 => wk80  fn1 x1 y3   (hS.sel hw2) hx11) (fun wm' res H hw' hp => ?_)
     obtain ⟨hres, hI⟩ := hp
     replace hres := hres.symm; subst hres
     replace hS : S wm 152 _ H ((139, .tuple #[.int .i64 r6, .bool r7]) :: _) ([] ++ _) Fr := hS.after rfl hw' hI
     clear hI hw'
     refine o_pure hS (.inl rfl) rfl rfl ?_; clear hS
     intro tm hS
     refine o_pure hS (.inl rfl) rfl rfl ?_; clear hS
     intro tm hS
     refine o_pure hS (.inl rfl) rfl rfl ?_; clear hS
     intro tm hS
     refine o_pure hS (.inl rfl) rfl rfl ?_; clear hS
     intro tm hS
     refine o_pure hS (.inl rfl) rfl rfl ?_; clear hS
     intro tm hS
     refine o_nil (hR _ _ ?_)
     clear hR R
     refine c_seqS ?_
     refine c_reg fun R hR => ?_
     refine o_pure hS (.inl rfl) rfl rfl ?_; clear hS
     intro tm hS
     refine o_pure hS (.inl rfl) rfl rfl ?_; clear hS
     intro tm hS
     refine o_nil (hR _ _ ?_)
     clear hR R
     refine c_cond hS rfl (fun hc => ?_) (fun hc => ?_)
     ·replace h4 := iteT hc h4
      refine c_reg fun R hR => ?_
      refine o_build hS (.inl rfl) rfl Fb27 rfl .nil rfl ?_; clear hS
      intro tm hS
      refine o_st (k := 2) hS (.inl rfl) rfl rfl rfl Fs27 rfl rfl (all_cons rfl (all_cons rfl (all_cons rfl all_nil))) rfl ?_; clear hS; try clear H
      intro H hS
      refine o_pure hS (.inl rfl) rfl rfl ?_; clear hS
      intro tm hS
      refine o_nil (hR _ _ ?_)
      clear hR R
      refine wpC.ret ?_
      obtain rfl := Option.some.inj h4
      obtain rfl := hq4 _ rfl
      refine And.intro rfl ?_
      obtain rfl := leave h0
      replace hS := hS.nilOwn (rI .i64)
      replace hS := hS.nilOwn (rI .i64)
      refine Exists.intro _ (And.intro (rs_cellA (k := 4) hS rfl rfl (.inl rfl) Fu27 rfl Fs27 rfl (rs_tmp hS rfl rs_nil)) ?_)
      have hI := hS.inv
      exact ⟨(.slice none 0 0), (.slice none 0 0), rfl, (((hI.pull 0 rfl).pull 1 rfl).take 2)⟩
     ·replace h4 := iteF hc h4
      refine wpC.skip ?_
      refine c_reg1 fun R hR => ?_
      refine o_pure hS (.inl rfl) rfl rfl ?_; clear hS
      intro tm hS
      refine o_ld1 (k := 3) hS (.inl rfl) rfl rfl rfl (.inl rfl) Fu23 rfl rfl ?_; clear hS
      intro tm hS
      refine o_pure hS (.inl rfl) rfl rfl ?_; clear hS
      intro tm hS
      refine o_lit (r := (rI .i64)) (l := [r6]) hS (.inl rfl) rfl Fl23 rfl rfl rfl (.cons rfl .nil) rfl rfl (ri_1 (rd_flat fun _ => rfl) ri_nil) rfl ?_; clear hS H
      intro v10 tm H hS
      obtain ⟨l2, hx12, h4⟩ := bindS h4
      refine o_app (k1 := 10) (k2 := 0) (r := (rI .i64)) hS (.inl rfl) rfl rfl rfl rfl rfl (.inr (.inr rfl)) rfl Fe23_23 rfl hx12 ?_; clear hS H
      intro v11 tm H hS
      refine o_pure hS (.inl rfl) rfl rfl ?_; clear hS
      intro tm hS
      refine o_st (k := 4) hS (.inl rfl) rfl rfl rfl Fs23 (cells_one (hS.one (k := 10) rfl (.inr (.inl rfl)))) rfl (all_cons (hS.one (k := 10) rfl (.inr (.inl rfl))) all_nil) rfl ?_; clear hS; try clear H
      intro H hS
      refine o_nil (hR _ _ ?_)
      clear hR R
      refine c_reg1 fun R hR => ?_
      refine o_pure hS (.inl rfl) rfl rfl ?_; clear hS
      intro tm hS
      refine o_pure hS (.inl rfl) rfl rfl ?_; clear hS
      intro tm hS
      refine o_pure hS (.inl rfl) rfl rfl ?_; clear hS
      intro tm hS
      refine o_nil (hR _ _ ?_)
      clear hR R
      obtain rfl := Option.some.inj h4
      refine ⟨_, rfl, ?_⟩
      refine Exists.intro v11 ?_; change S wm 152 _ _ _ _ Fr; exact hS.keep (ka_cons rfl (ka_cons rfl (ka_cons rfl (ka_cons rfl (ka_cons rfl (ka_cons rfl (ka_cons rfl ka_nil))))))) (fun hI => (((((((((((hI.pull 9 rfl).pull 9 rfl).pull 9 rfl).pull 9 rfl).pull 9 rfl).pull 10 rfl).pull 10 rfl).pull 10 rfl).pull 10 rfl).pull 10 rfl).take 10))
    ·replace h4 := iteF hc h4
     refine wpC.exit ?_
     refine seqX ?_
     obtain rfl := Option.some.inj h4
     obtain rfl := hq4 _ rfl
     refine And.intro rfl (blk_eq ?_)
     replace h0 := joinN h0
     refine c_reg fun R hR => ?_
     refine o_ldA (k := 3) hS (.inl rfl) rfl rfl rfl (.inl rfl) Fu27 rfl Fs27 rfl ?_; clear hS
     intro tm hS
     refine o_st (k := 2) hS (.inl rfl) rfl rfl rfl Fs27 rfl rfl (all_cons rfl (all_cons (hS.one (k := 9) rfl (.inr (.inl rfl))) (all_cons (hS.one (k := 4) rfl (.inr (.inl rfl))) all_nil))) rfl ?_; clear hS; try clear H
     intro H hS
     refine o_pure hS (.inl rfl) rfl rfl ?_; clear hS
     intro tm hS
     refine o_nil (hR _ _ ?_)
     clear hR R
     refine wpC.ret ?_
     obtain rfl := Option.some.inj h0
     refine Exists.intro _ (And.intro (rs_cellA (k := 2) hS rfl rfl (.inl rfl) Fu27 rfl Fs27 rfl (rs_tmp hS rfl rs_nil)) ?_)
     have hI := hS.inv
     exact ⟨v8, v9, rfl, (((hI.pull 4 rfl).pull 9 rfl).take 2)⟩
theorem wk17 {wm : Nat} {H : AHeap} {Fr : List Ent}  (a1 : Val) (b1 : Val)  (v1 : Value) (v2 : Value) (v3 : Value) (v4 : Value) (hI : Kn wm H [.fz (rI .i64) v1 a1.Shape, .fz (rI .i64) v2 a1.Data, .fz (rI .i64) v3 b1.Shape, .fz (rI .i64) v4 b1.Data] Fr) {r : Bool} (h0 : M.anamnesisref06_Same a1 b1 = some r) :
  wpF Try.prog ora wm 17 [.agg #[.bool a1.Char, v1, v2], .agg #[.bool b1.Char, v3, v4]] H (fun res H => res = .bool r ∧ Kn wm H [] Fr) := by
 unfold M.anamnesisref06_Same at h0
 refine f_enter (n := 66) Try.func17 rfl (by simp) hI rfl rfl rfl fun tm hS => ?_
 clear hI
 refine c_reg fun R hR => ?_
 refine o_box hS (.inl rfl) rfl rfl rfl (all_cons rfl (all_cons (hS.one (k := 0) rfl (.inl rfl)) (all_cons (hS.one (k := 1) rfl (.inl rfl)) all_nil))) ?_; clear hS H
 intro b2 tm H hS
 refine o_box hS (.inl rfl) rfl rfl rfl (all_cons rfl (all_cons (hS.one (k := 3) rfl (.inl rfl)) (all_cons (hS.one (k := 4) rfl (.inl rfl)) all_nil))) ?_; clear hS H
 intro b3 tm H hS
 refine o_pure hS (.inl rfl) rfl rfl ?_; clear hS
 intro tm hS
 refine o_nil (hR _ _ ?_)
 clear hR R
 refine c_seqS ?_
 refine c_reg fun R hR => ?_
 refine o_pure hS (.inl rfl) rfl rfl ?_; clear hS
 intro tm hS
 refine o_ld1 (k := 1) hS (.inl rfl) rfl rfl rfl (.inl rfl) Fu4 rfl rfl ?_; clear hS
 intro tm hS
 refine o_pure hS (.inl rfl) rfl rfl ?_; clear hS
 intro tm hS
 refine o_ld1 (k := 0) hS (.inl rfl) rfl rfl rfl (.inl rfl) Fu4 rfl rfl ?_; clear hS
 intro tm hS
 refine o_pure hS (.inl rfl) rfl rfl ?_; clear hS
 intro tm hS
 refine o_pure hS (.inl rfl) rfl rfl ?_; clear hS
 intro tm hS
 obtain ⟨c1, hc1⟩ : ∃ x : Bool, x = ((!(a1.Char == b1.Char)) || ((a1.Shape.length : Int) != (b1.Shape.length : Int))) := ⟨_, rfl⟩
 refine o_cutN 8 (J := fun tm H => S wm 66 tm H [(20, .bool c1), (2, .pointer (some ⟨b2, 0, none⟩)), (3, .pointer (some ⟨b3, 0, none⟩))] [.box b3 [.bool b1.Char, v3, v4], .box b2 [.bool a1.Char, v1, v2], .fz (rI .i64) v1 a1.Shape, .fz (rI .i64) v2 a1.Data, .fz (rI .i64) v3 b1.Shape, .fz (rI .i64) v4 b1.Data] Fr) ?_ ?_
 ·rcases Bool.eq_false_or_eq_true (!(a1.Char == b1.Char)) with hg1 | hg1
  ·refine o_skip hS rfl rfl rfl hg1 ?_; clear hS
   intro tm hS
   refine o_skip hS rfl rfl rfl hg1 ?_; clear hS
   intro tm hS
   refine o_skip hS rfl rfl rfl hg1 ?_; clear hS
   intro tm hS
   refine o_skip hS rfl rfl rfl hg1 ?_; clear hS
   intro tm hS
   refine o_skip hS rfl rfl rfl hg1 ?_; clear hS
   intro tm hS
   refine o_skip hS rfl rfl rfl hg1 ?_; clear hS
   intro tm hS
   refine o_skip hS rfl rfl rfl hg1 ?_; clear hS
   intro tm hS
   refine o_pickT hS (.inl rfl) rfl rfl hg1 rfl ?_; clear hS
   intro tm hS
   have hc1 : c1 = true := hc1.trans (by rw [hg1]; first | rfl | simp)
   subst hc1
   exact o_nil (hS.keep (ka_cons rfl (ka_cons rfl (ka_cons rfl ka_nil))) (fun hI => (hI.sub (sc (sc (sc (sc (sc (sc sn)))))))))
  ·refine o_pure hS (.inr ⟨_, _, _, _, rfl, rfl, rfl, hg1⟩) rfl rfl ?_; clear hS
   intro tm hS
   refine o_ld1 (k := 1) hS (.inr ⟨_, _, _, _, rfl, rfl, rfl, hg1⟩) rfl rfl rfl (.inl rfl) Fu22 rfl rfl ?_; clear hS
   intro tm hS
   refine o_len (k := 2) (r := (rI .i64)) hS (.inr ⟨_, _, _, _, rfl, rfl, rfl, hg1⟩) rfl rfl rfl (.inl rfl) Fu22 rfl ?_; clear hS
   intro tm hS
   refine o_pure hS (.inr ⟨_, _, _, _, rfl, rfl, rfl, hg1⟩) rfl rfl ?_; clear hS
   intro tm hS
   refine o_ld1 (k := 0) hS (.inr ⟨_, _, _, _, rfl, rfl, rfl, hg1⟩) rfl rfl rfl (.inl rfl) Fu22 rfl rfl ?_; clear hS
   intro tm hS
   refine o_len (k := 4) (r := (rI .i64)) hS (.inr ⟨_, _, _, _, rfl, rfl, rfl, hg1⟩) rfl rfl rfl (.inl rfl) Fu22 rfl ?_; clear hS
   intro tm hS
   refine o_pure hS (.inr ⟨_, _, _, _, rfl, rfl, rfl, hg1⟩) rfl rfl ?_; clear hS
   intro tm hS
   refine o_pickF hS (.inl rfl) rfl rfl hg1 rfl ?_; clear hS
   intro tm hS
   have hc1 : c1 = ((a1.Shape.length : Int) != (b1.Shape.length : Int)) := hc1.trans (by rw [hg1]; first | rfl | simp)
   subst hc1
   exact o_nil (hS.keep (ka_cons rfl (ka_cons rfl (ka_cons rfl ka_nil))) (fun hI => (hI.sub (sc (sc (sc (sc (sc (sc sn)))))))))
 intro tm H hS
 subst hc1
 refine o_pure hS (.inl rfl) rfl rfl ?_; clear hS
 intro tm hS
 obtain ⟨c2, hc2⟩ : ∃ x : Bool, x = (((!(a1.Char == b1.Char)) || ((a1.Shape.length : Int) != (b1.Shape.length : Int))) || ((a1.Data.length : Int) != (b1.Data.length : Int))) := ⟨_, rfl⟩
 refine o_cutN 8 (J := fun tm H => S wm 66 tm H [(29, .bool c2), (2, .pointer (some ⟨b2, 0, none⟩)), (3, .pointer (some ⟨b3, 0, none⟩))] [.box b3 [.bool b1.Char, v3, v4], .box b2 [.bool a1.Char, v1, v2], .fz (rI .i64) v1 a1.Shape, .fz (rI .i64) v2 a1.Data, .fz (rI .i64) v3 b1.Shape, .fz (rI .i64) v4 b1.Data] Fr) ?_ ?_
 ·rcases Bool.eq_false_or_eq_true ((!(a1.Char == b1.Char)) || ((a1.Shape.length : Int) != (b1.Shape.length : Int))) with hg2 | hg2
  ·refine o_skip hS rfl rfl rfl hg2 ?_; clear hS
   intro tm hS
   refine o_skip hS rfl rfl rfl hg2 ?_; clear hS
   intro tm hS
   refine o_skip hS rfl rfl rfl hg2 ?_; clear hS
   intro tm hS
   refine o_skip hS rfl rfl rfl hg2 ?_; clear hS
   intro tm hS
   refine o_skip hS rfl rfl rfl hg2 ?_; clear hS
   intro tm hS
   refine o_skip hS rfl rfl rfl hg2 ?_; clear hS
   intro tm hS
   refine o_skip hS rfl rfl rfl hg2 ?_; clear hS
   intro tm hS
   refine o_pickT hS (.inl rfl) rfl rfl hg2 rfl ?_; clear hS
   intro tm hS
   have hc2 : c2 = true := hc2.trans (by rw [hg2]; first | rfl | simp)
   subst hc2
   exact o_nil (hS.keep (ka_cons rfl (ka_cons rfl (ka_cons rfl ka_nil))) (fun hI => (hI.sub (sc (sc (sc (sc (sc (sc sn)))))))))
  ·refine o_pure hS (.inr ⟨_, _, _, _, rfl, rfl, rfl, hg2⟩) rfl rfl ?_; clear hS
   intro tm hS
   refine o_ld1 (k := 1) hS (.inr ⟨_, _, _, _, rfl, rfl, rfl, hg2⟩) rfl rfl rfl (.inl rfl) Fu23 rfl rfl ?_; clear hS
   intro tm hS
   refine o_len (k := 3) (r := (rI .i64)) hS (.inr ⟨_, _, _, _, rfl, rfl, rfl, hg2⟩) rfl rfl rfl (.inl rfl) Fu23 rfl ?_; clear hS
   intro tm hS
   refine o_pure hS (.inr ⟨_, _, _, _, rfl, rfl, rfl, hg2⟩) rfl rfl ?_; clear hS
   intro tm hS
   refine o_ld1 (k := 0) hS (.inr ⟨_, _, _, _, rfl, rfl, rfl, hg2⟩) rfl rfl rfl (.inl rfl) Fu23 rfl rfl ?_; clear hS
   intro tm hS
   refine o_len (k := 5) (r := (rI .i64)) hS (.inr ⟨_, _, _, _, rfl, rfl, rfl, hg2⟩) rfl rfl rfl (.inl rfl) Fu23 rfl ?_; clear hS
   intro tm hS
   refine o_pure hS (.inr ⟨_, _, _, _, rfl, rfl, rfl, hg2⟩) rfl rfl ?_; clear hS
   intro tm hS
   refine o_pickF hS (.inl rfl) rfl rfl hg2 rfl ?_; clear hS
   intro tm hS
   have hc2 : c2 = ((a1.Data.length : Int) != (b1.Data.length : Int)) := hc2.trans (by rw [hg2]; first | rfl | simp)
   subst hc2
   exact o_nil (hS.keep (ka_cons rfl (ka_cons rfl (ka_cons rfl ka_nil))) (fun hI => (hI.sub (sc (sc (sc (sc (sc (sc sn)))))))))
 intro tm H hS
 subst hc2
 refine o_nil (hR _ _ ?_)
 clear hR R
 refine c_cond hS rfl (fun hc => ?_) (fun hc => ?_)
 ·replace h0 := iteT hc h0
  refine c_reg fun R hR => ?_
  refine o_pure hS (.inl rfl) rfl rfl ?_; clear hS
  intro tm hS
  refine o_nil (hR _ _ ?_)
  clear hR R
  refine wpC.ret ?_
  obtain rfl := Option.some.inj h0
  refine Exists.intro _ (And.intro (rs_tmp hS rfl rs_nil) ?_)
  have hI := hS.inv
  exact ⟨rfl, (hI.sub sn)⟩
 ·replace h0 := iteF hc h0
  refine wpC.skip ?_
  refine c_seqS ?_
  refine c_reg fun R hR => ?_
  refine o_pure hS (.inl rfl) rfl rfl ?_; clear hS
  intro tm hS
  refine o_nil (hR _ _ ?_)
  clear hR R
  obtain ⟨k1, hw1, h0⟩ := bindS h0
  refine wpC.block ?_
  refine c_loop (I := fun (s : Int) tm H => match (generalizing := false) s with | i1 => S wm 66 tm H [(2, .pointer (some ⟨b2, 0, none⟩)), (3, .pointer (some ⟨b3, 0, none⟩)), (5, .int .i64 i1)] [.box b2 [.bool a1.Char, v1, v2], .box b3 [.bool b1.Char, v3, v4], .fz (rI .i64) v1 a1.Shape, .fz (rI .i64) v2 a1.Data, .fz (rI .i64) v3 b1.Shape, .fz (rI .i64) v4 b1.Data] Fr) hw1 (by change S wm 66 _ _ _ _ Fr; exact hS.keep (ka_cons rfl (ka_cons rfl (ka_cons rfl ka_nil))) (fun hI => (((((((hI.pull 5 rfl).pull 5 rfl).pull 5 rfl).pull 5 rfl).pull 4 rfl).pull 5 rfl).take 6))) ?_
  clear hS
  intro i1 tm H c3 hS h1 hq1
  change S wm 66 tm H [(2, .pointer (some ⟨b2, 0, none⟩)), (3, .pointer (some ⟨b3, 0, none⟩)), (5, .int .i64 i1)] [.box b2 [.bool a1.Char, v1, v2], .box b3 [.bool b1.Char, v3, v4], .fz (rI .i64) v1 a1.Shape, .fz (rI .i64) v2 a1.Data, .fz (rI .i64) v3 b1.Shape, .fz (rI .i64) v4 b1.Data] Fr at hS
  refine c_seqS ?_
  refine c_reg fun R hR => ?_
  refine o_pure hS (.inl rfl) rfl rfl ?_; clear hS
  intro tm hS
  refine o_pure hS (.inl rfl) rfl rfl ?_; clear hS
  intro tm hS
  refine o_ld1 (k := 0) hS (.inl rfl) rfl rfl rfl (.inl rfl) Fu22 rfl rfl ?_; clear hS
  intro tm hS
  refine o_len (k := 2) (r := (rI .i64)) hS (.inl rfl) rfl rfl rfl (.inl rfl) Fu22 rfl ?_; clear hS
  intro tm hS
  refine o_pure hS (.inl rfl) rfl rfl ?_; clear hS
  intro tm hS
  refine o_nil (hR _ _ ?_)
  clear hR R
  refine c_cond hS rfl (fun hc => ?_) (fun hc => ?_)
  ·replace h1 := iteT hc h1
   refine wpC.skip ?_
   refine c_seqS ?_
   refine wpC.block ?_
   refine c_reg fun R hR => ?_
   refine o_pure hS (.inl rfl) rfl rfl ?_; clear hS
   intro tm hS
   refine o_ld1 (k := 0) hS (.inl rfl) rfl rfl rfl (.inl rfl) Fu22 rfl rfl ?_; clear hS
   intro tm hS
   refine o_pure hS (.inl rfl) rfl rfl ?_; clear hS
   intro tm hS
   obtain ⟨y1, hx1, h1⟩ := bindS h1
   refine o_ixA (k := 2) (r := (rI .i64)) hS (.inl rfl) rfl rfl rfl rfl (.inl rfl) Fu22 Fs3 hx1 ?_; clear hS
   intro tm hS
   refine o_ldF (r := (rI .i64)) (k := 2) hS (.inl rfl) rfl rfl rfl (.inl rfl) hx1 Fu3 rfl (flat_I _) rfl ?_; clear hS
   intro tm hS
   refine o_pure hS (.inl rfl) rfl rfl ?_; clear hS
   intro tm hS
   refine o_ld1 (k := 1) hS (.inl rfl) rfl rfl rfl (.inl rfl) Fu22 rfl rfl ?_; clear hS
   intro tm hS
   refine o_pure hS (.inl rfl) rfl rfl ?_; clear hS
   intro tm hS
   obtain ⟨y2, hx2, h1⟩ := bindS h1
   refine o_ixA (k := 4) (r := (rI .i64)) hS (.inl rfl) rfl rfl rfl rfl (.inl rfl) Fu22 Fs3 hx2 ?_; clear hS
   intro tm hS
   refine o_ldF (r := (rI .i64)) (k := 4) hS (.inl rfl) rfl rfl rfl (.inl rfl) hx2 Fu3 rfl (flat_I _) rfl ?_; clear hS
   intro tm hS
   refine o_pure hS (.inl rfl) rfl rfl ?_; clear hS
   intro tm hS
   refine o_nil (hR _ _ ?_)
   clear hR R
   refine c_cond hS rfl (fun hc => ?_) (fun hc => ?_)
   ·replace h1 := iteT hc h1
    refine c_reg fun R hR => ?_
    refine o_pure hS (.inl rfl) rfl rfl ?_; clear hS
    intro tm hS
    refine o_nil (hR _ _ ?_)
    clear hR R
    refine wpC.ret ?_
    obtain rfl := Option.some.inj h1
    obtain rfl := hq1 _ rfl
    refine And.intro rfl ?_
    obtain rfl := leave h0
    refine Exists.intro _ (And.intro (rs_tmp hS rfl rs_nil) ?_)
    have hI := hS.inv
    exact ⟨rfl, (hI.sub sn)⟩
   ·replace h1 := iteF hc h1
    refine wpC.skip ?_
    refine c_reg1 fun R hR => ?_
    refine o_pure hS (.inl rfl) rfl rfl ?_; clear hS
    intro tm hS
    refine o_pure hS (.inl rfl) rfl rfl ?_; clear hS
    intro tm hS
    refine o_pure hS (.inl rfl) rfl rfl ?_; clear hS
    intro tm hS
    refine o_nil (hR _ _ ?_)
    clear hR R
    obtain rfl := Option.some.inj h1
    refine ⟨_, rfl, ?_⟩
    change S wm 66 _ _ _ _ Fr; exact hS.keep (ka_cons rfl (ka_cons rfl (ka_cons rfl ka_nil))) (fun hI => (hI.sub (sc (sc (sc (sc (sc (sc sn))))))))
  ·replace h1 := iteF hc h1
   refine wpC.exit ?_
   refine seqX ?_
   obtain rfl := Option.some.inj h1
   obtain rfl := hq1 _ rfl
   refine And.intro rfl (blk_eq ?_)
   replace h0 := joinN h0
   refine c_seqS ?_
   refine c_reg fun R hR => ?_
   refine o_pure hS (.inl rfl) rfl rfl ?_; clear hS
   intro tm hS
   refine o_nil (hR _ _ ?_)
   clear hR R
   obtain ⟨k2, hw2, h0⟩ := bindS h0
   refine wpC.block ?_
   refine c_loop (I := fun (s : Int) tm H => match (generalizing := false) s with | i2 => S wm 66 tm H [(2, .pointer (some ⟨b2, 0, none⟩)), (3, .pointer (some ⟨b3, 0, none⟩)), (6, .int .i64 i2)] [.box b2 [.bool a1.Char, v1, v2], .box b3 [.bool b1.Char, v3, v4], .fz (rI .i64) v1 a1.Shape, .fz (rI .i64) v2 a1.Data, .fz (rI .i64) v3 b1.Shape, .fz (rI .i64) v4 b1.Data] Fr) hw2 (by change S wm 66 _ _ _ _ Fr; exact hS.keep (ka_cons rfl (ka_cons rfl (ka_cons rfl ka_nil))) (fun hI => (hI.sub (sc (sc (sc (sc (sc (sc sn))))))))) ?_
   clear hS
   intro i2 tm H c4 hS h3 hq3
   change S wm 66 tm H [(2, .pointer (some ⟨b2, 0, none⟩)), (3, .pointer (some ⟨b3, 0, none⟩)), (6, .int .i64 i2)] [.box b2 [.bool a1.Char, v1, v2], .box b3 [.bool b1.Char, v3, v4], .fz (rI .i64) v1 a1.Shape, .fz (rI .i64) v2 a1.Data, .fz (rI .i64) v3 b1.Shape, .fz (rI .i64) v4 b1.Data] Fr at hS
   refine c_seqS ?_
   refine c_reg fun R hR => ?_
   refine o_pure hS (.inl rfl) rfl rfl ?_; clear hS
   intro tm hS
   refine o_pure hS (.inl rfl) rfl rfl ?_; clear hS
   intro tm hS
   refine o_ld1 (k := 0) hS (.inl rfl) rfl rfl rfl (.inl rfl) Fu23 rfl rfl ?_; clear hS
   intro tm hS
   refine o_len (k := 3) (r := (rI .i64)) hS (.inl rfl) rfl rfl rfl (.inl rfl) Fu23 rfl ?_; clear hS
   intro tm hS
   refine o_pure hS (.inl rfl) rfl rfl ?_; clear hS
   intro tm hS
   refine o_nil (hR _ _ ?_)
   clear hR R
   refine c_cond hS rfl (fun hc => ?_) (fun hc => ?_)
   ·replace h3 := iteT hc h3
    refine wpC.skip ?_
    refine c_seqS ?_
    refine wpC.block ?_
    refine c_reg fun R hR => ?_
    refine o_pure hS (.inl rfl) rfl rfl ?_; clear hS
    intro tm hS
    refine o_ld1 (k := 0) hS (.inl rfl) rfl rfl rfl (.inl rfl) Fu23 rfl rfl ?_; clear hS
    intro tm hS
    refine o_pure hS (.inl rfl) rfl rfl ?_; clear hS
    intro tm hS
    obtain ⟨y3, hx3, h3⟩ := bindS h3
    refine o_ixA (k := 3) (r := (rI .i64)) hS (.inl rfl) rfl rfl rfl rfl (.inl rfl) Fu23 Fs2 hx3 ?_; clear hS
    intro tm hS
    refine o_ldF (r := (rI .i64)) (k := 3) hS (.inl rfl) rfl rfl rfl (.inl rfl) hx3 Fu2 rfl (flat_I _) rfl ?_; clear hS
    intro tm hS
    refine o_pure hS (.inl rfl) rfl rfl ?_; clear hS
    intro tm hS
    refine o_ld1 (k := 1) hS (.inl rfl) rfl rfl rfl (.inl rfl) Fu23 rfl rfl ?_; clear hS
    intro tm hS
    refine o_pure hS (.inl rfl) rfl rfl ?_; clear hS
    intro tm hS
    obtain ⟨y4, hx4, h3⟩ := bindS h3
    refine o_ixA (k := 5) (r := (rI .i64)) hS (.inl rfl) rfl rfl rfl rfl (.inl rfl) Fu23 Fs2 hx4 ?_; clear hS
    intro tm hS
    refine o_ldF (r := (rI .i64)) (k := 5) hS (.inl rfl) rfl rfl rfl (.inl rfl) hx4 Fu2 rfl (flat_I _) rfl ?_; clear hS
    intro tm hS
    refine o_pure hS (.inl rfl) rfl rfl ?_; clear hS
    intro tm hS
    refine o_nil (hR _ _ ?_)
    clear hR R
    refine c_cond hS rfl (fun hc => ?_) (fun hc => ?_)
    ·replace h3 := iteT hc h3
     refine c_reg fun R hR => ?_
     refine o_pure hS (.inl rfl) rfl rfl ?_; clear hS
     intro tm hS
     refine o_nil (hR _ _ ?_)
     clear hR R
     refine wpC.ret ?_
     obtain rfl := Option.some.inj h3
     obtain rfl := hq3 _ rfl
     refine And.intro rfl ?_
     obtain rfl := leave h0
     refine Exists.intro _ (And.intro (rs_tmp hS rfl rs_nil) ?_)
     have hI := hS.inv
     exact ⟨rfl, (hI.sub sn)⟩
    ·replace h3 := iteF hc h3
     refine wpC.skip ?_
     refine c_reg1 fun R hR => ?_
     refine o_pure hS (.inl rfl) rfl rfl ?_; clear hS
     intro tm hS
     refine o_pure hS (.inl rfl) rfl rfl ?_; clear hS
     intro tm hS
     refine o_pure hS (.inl rfl) rfl rfl ?_; clear hS
     intro tm hS
     refine o_nil (hR _ _ ?_)
     clear hR R
     obtain rfl := Option.some.inj h3
     refine ⟨_, rfl, ?_⟩
     change S wm 66 _ _ _ _ Fr; exact hS.keep (ka_cons rfl (ka_cons rfl (ka_cons rfl ka_nil))) (fun hI => (hI.sub (sc (sc (sc (sc (sc (sc sn))))))))
   ·replace h3 := iteF hc h3
    refine wpC.exit ?_
    refine seqX ?_
    obtain rfl := Option.some.inj h3
    obtain rfl := hq3 _ rfl
    refine And.intro rfl (blk_eq ?_)
    replace h0 := joinN h0
    refine c_reg fun R hR => ?_
    refine o_pure hS (.inl rfl) rfl rfl ?_; clear hS
    intro tm hS
    refine o_nil (hR _ _ ?_)
    clear hR R
    refine wpC.ret ?_
    obtain rfl := Option.some.inj h0
    refine Exists.intro _ (And.intro (rs_tmp hS rfl rs_nil) ?_)
    have hI := hS.inv
    exact ⟨rfl, (hI.sub sn)⟩
theorem wk12 {wm : Nat} {H : AHeap} {Fr : List Ent} (ho13 : ora 13 = true) (ho44 : ora 44 = false) (ho52 : ora 52 = false) (ho76 : ora 76 = false) (ho120 : ora 120 = false) (which1 : Int) (other1 : ByteArray) (a1 : Val) (b1 : Val)  (v1 : Value) (v2 : Value) (v3 : Value) (v4 : Value) (hI : Kn wm H [.fz (rI .i64) v1 a1.Shape, .fz (rI .i64) v2 a1.Data, .fz (rI .i64) v3 b1.Shape, .fz (rI .i64) v4 b1.Data] Fr) {r : Bool} (h0 : M.anamnesislaw06_ScalarTells which1 other1 a1 b1 = some r) :
  wpF Try.prog ora wm 12 [.int .u8 which1, .string other1, .agg #[.bool a1.Char, v1, v2], .agg #[.bool b1.Char, v3, v4]] H (fun res H => res = .bool r ∧ Kn wm H [] Fr) := by
 unfold M.anamnesislaw06_ScalarTells at h0
 refine f_enter (n := 161) Try.func12 rfl (by simp) hI rfl rfl rfl fun tm hS => ?_
 clear hI
 refine c_reg fun R hR => ?_
 refine o_box hS (.inl rfl) rfl rfl rfl (all_cons rfl (all_cons (hS.one (k := 0) rfl (.inl rfl)) (all_cons (hS.one (k := 1) rfl (.inl rfl)) all_nil))) ?_; clear hS H
 intro b2 tm H hS
 refine o_box hS (.inl rfl) rfl rfl rfl (all_cons rfl (all_cons (hS.one (k := 3) rfl (.inl rfl)) (all_cons (hS.one (k := 4) rfl (.inl rfl)) all_nil))) ?_; clear hS H
 intro b3 tm H hS
 refine o_pure hS (.inl rfl) rfl rfl ?_; clear hS
 intro tm hS
 refine o_nil (hR _ _ ?_)
 clear hR R
 refine c_seqS ?_
 refine c_reg fun R hR => ?_
 refine o_ldA (k := 1) hS (.inl rfl) rfl rfl rfl (.inl rfl) Fu27 rfl Fs27 rfl ?_; clear hS
 intro tm hS
 obtain ⟨r1, hx1, h0⟩ := bindS h0
 refine o_call hS (.inl rfl) rfl (fun wm' hw1 hw2 => wk18  a1  v1 v2 (((hS.sel hw2).ad 3 rfl).ad 2 rfl) hx1) (fun wm' res H hw' hp => ?_)
 obtain ⟨hres, hI⟩ := hp
 replace hres := hres.symm; subst hres
 replace hS : S wm 161 _ H ((26, .bool r1) :: _) ([] ++ _) Fr := hS.after rfl hw' hI
 clear hI hw'
 refine o_pure hS (.inl rfl) rfl rfl ?_; clear hS
 intro tm hS
 obtain ⟨c1, hc1, h0⟩ := bindS h0
 refine o_cutN 3 (J := fun tm H => S wm 161 tm H [(30, .bool c1), (0, .int .u8 which1), (1, .string other1), (6, .pointer (some ⟨b2, 0, none⟩)), (7, .pointer (some ⟨b3, 0, none⟩))] [.box b3 [.bool b1.Char, v3, v4], .box b2 [.bool a1.Char, v1, v2], .fz (rI .i64) v1 a1.Shape, .fz (rI .i64) v2 a1.Data, .fz (rI .i64) v3 b1.Shape, .fz (rI .i64) v4 b1.Data] Fr) ?_ ?_
 ·rcases Bool.eq_false_or_eq_true r1 with hg1 | hg1
  ·replace hc1 := iteT hg1 hc1
   refine o_skip hS rfl rfl rfl hg1 ?_; clear hS
   intro tm hS
   refine o_skip hS rfl rfl rfl hg1 ?_; clear hS
   intro tm hS
   refine o_pickT hS (.inl rfl) rfl rfl hg1 rfl ?_; clear hS
   intro tm hS
   obtain rfl := Option.some.inj hc1
   exact o_nil (hS.keep (ka_cons rfl (ka_cons rfl (ka_cons rfl (ka_cons rfl (ka_cons rfl ka_nil))))) (fun hI => (hI.sub (sc (sc (sc (sc (sc (sc sn)))))))))
  ·replace hc1 := iteF hg1 hc1
   refine o_ldA (k := 0) hS (.inr ⟨_, _, _, _, rfl, rfl, rfl, hg1⟩) rfl rfl rfl (.inl rfl) Fu27 rfl Fs27 rfl ?_; clear hS
   intro tm hS
   obtain ⟨r2, hx2, hc1⟩ := bindS hc1
   refine o_call hS (.inr ⟨_, _, _, _, rfl, rfl, rfl, hg1⟩) rfl (fun wm' hw1 hw2 => wk18  b1  v3 v4 (((hS.sel hw2).ad 5 rfl).ad 4 rfl) hx2) (fun wm' res H hw' hp => ?_)
   obtain ⟨hres, hI⟩ := hp
   replace hres := hres.symm; subst hres
   replace hS : S wm 161 _ H ((29, .bool r2) :: _) ([] ++ _) Fr := hS.after rfl hw' hI
   clear hI hw'
   refine o_pickF hS (.inl rfl) rfl rfl hg1 rfl ?_; clear hS
   intro tm hS
   obtain rfl := Option.some.inj hc1
   exact o_nil (hS.keep (ka_cons rfl (ka_cons rfl (ka_cons rfl (ka_cons rfl (ka_cons rfl ka_nil))))) (fun hI => (hI.sub (sc (sc (sc (sc (sc (sc sn)))))))))
 intro tm H hS
 refine o_nil (hR _ _ ?_)
 clear hR R
 refine c_cond hS rfl (fun hc => ?_) (fun hc => ?_)
 ·replace h0 := iteT hc h0
  refine c_reg fun R hR => ?_
  refine o_call hS (.inl rfl) rfl (fun wm' hw1 hw2 => wpF.told ho13 (Q := fun v H' => v = .bool true ∧ H' = H) ⟨rfl, rfl⟩) (fun wm' res H hw' hp => ?_)
  obtain ⟨rfl, rfl⟩ := hp
  replace hS := hS.put (d := 31) rfl (.bool true)
  clear hw'
  refine o_pure hS (.inl rfl) rfl rfl ?_; clear hS
  intro tm hS
  refine o_nil (hR _ _ ?_)
  clear hR R
  refine wpC.ret ?_
  obtain rfl := Option.some.inj h0
  refine Exists.intro _ (And.intro (rs_tmp hS rfl rs_nil) ?_)
  have hI := hS.inv
  exact ⟨rfl, (hI.sub sn)⟩
 ·replace h0 := iteF hc h0
  refine wpC.skip ?_
  refine c_reg fun R hR => ?_
  obtain ⟨r3, hx3, h0⟩ := bindS h0
  refine o_call hS (.inl rfl) rfl (fun wm' hw1 hw2 => wk44 ho44    (hS.sel hw2) hx3) (fun wm' res H hw' hp => ?_)
  obtain ⟨v5, hres, hI⟩ := hp
  replace hres := hres.symm; subst hres
  replace hS : S wm 161 _ H ((32, v5) :: _) ([.own rS v5 r3] ++ _) Fr := hS.after rfl hw' hI
  clear hI hw'
  refine o_pure hS (.inl rfl) rfl rfl ?_; clear hS
  intro tm hS
  refine o_lit (r := rS) (l := [str_126, other1]) hS (.inl rfl) rfl Fl24 rfl rfl rfl (.cons rfl (.cons rfl .nil)) rfl rfl (ri_1 (rd_flat fun _ => rfl) (ri_1 (rd_flat fun _ => rfl) ri_nil)) rfl ?_; clear hS H
  intro v6 tm H hS
  obtain ⟨l1, hx4, h0⟩ := bindS h0
  refine o_app (k1 := 1) (k2 := 0) (r := rS) hS (.inl rfl) rfl rfl rfl rfl rfl (.inr (.inr rfl)) rfl Fe24_24 rfl hx4 ?_; clear hS H
  intro v7 tm H hS
  refine o_pure hS (.inl rfl) rfl rfl ?_; clear hS
  intro tm hS
  refine o_nil (hR _ _ ?_)
  clear hR R
  refine c_reg fun R hR => ?_
  refine o_pure hS (.inl rfl) rfl rfl ?_; clear hS
  intro tm hS
  refine o_pure hS (.inl rfl) rfl rfl ?_; clear hS
  intro tm hS
  refine o_pure hS (.inl rfl) rfl rfl ?_; clear hS
  intro tm hS
  refine o_pure hS (.inl rfl) rfl rfl ?_; clear hS
  intro tm hS
  refine o_len (k := 1) (r := rS) hS (.inl rfl) rfl rfl rfl (.inr (.inl rfl)) Fu24 rfl ?_; clear hS
  intro tm hS
  obtain ⟨q1, hx5, h0⟩ := bindS h0
  refine o_rem hS (.inl rfl) rfl rfl rfl hx5 ?_; clear hS
  intro tm hS
  obtain ⟨y1, hx6, h0⟩ := bindS h0
  refine o_ixA (k := 1) (r := rS) hS (.inl rfl) rfl rfl rfl rfl (.inr (.inl rfl)) Fu24 Fs9 hx6 ?_; clear hS
  intro tm hS
  refine o_ldF (r := rS) (k := 1) hS (.inl rfl) rfl rfl rfl (.inr (.inl rfl)) hx6 Fu9 rfl flat_S rfl ?_; clear hS
  intro tm hS
  refine o_pure hS (.inl rfl) rfl rfl ?_; clear hS
  intro tm hS
  refine o_nil (hR _ _ ?_)
  clear hR R
  refine c_reg fun R hR => ?_
  refine o_lit (r := (rI .i64)) (l := ([] : List Int)) hS (.inl rfl) rfl Fl23 rfl rfl rfl .nil rfl rfl ri_nil rfl ?_; clear hS H
  intro v8 tm H hS
  refine o_pure hS (.inl rfl) rfl rfl ?_; clear hS
  intro tm hS
  refine o_ld1 (k := 4) hS (.inl rfl) rfl rfl rfl (.inl rfl) Fu23 rfl rfl ?_; clear hS
  intro tm hS
  obtain ⟨l2, hx7, h0⟩ := bindS h0
  refine o_appL (k1 := 0) (k2 := 6) (r := (rI .i64)) hS (.inl rfl) rfl rfl rfl rfl rfl (.inl rfl) rfl Fe23_23 hx7 ?_; clear hS H
  intro v9 tm H hS
  refine o_pure hS (.inl rfl) rfl rfl ?_; clear hS
  intro tm hS
  refine o_nil (hR _ _ ?_)
  clear hR R
  refine c_reg fun R hR => ?_
  refine o_lit (r := (rI .i64)) (l := ([] : List Int)) hS (.inl rfl) rfl Fl23 rfl rfl rfl .nil rfl rfl ri_nil rfl ?_; clear hS H
  intro v10 tm H hS
  refine o_pure hS (.inl rfl) rfl rfl ?_; clear hS
  intro tm hS
  refine o_ld1 (k := 4) hS (.inl rfl) rfl rfl rfl (.inl rfl) Fu23 rfl rfl ?_; clear hS
  intro tm hS
  obtain ⟨l3, hx8, h0⟩ := bindS h0
  refine o_appL (k1 := 0) (k2 := 9) (r := (rI .i64)) hS (.inl rfl) rfl rfl rfl rfl rfl (.inl rfl) rfl Fe23_23 hx8 ?_; clear hS H
  intro v11 tm H hS
  refine o_pure hS (.inl rfl) rfl rfl ?_; clear hS
  intro tm hS
  refine o_nil (hR _ _ ?_)
  clear hR R
  refine c_reg fun R hR => ?_
  refine o_pure hS (.inl rfl) rfl rfl ?_; clear hS
  intro tm hS
  refine o_ldA (k := 4) hS (.inl rfl) rfl rfl rfl (.inl rfl) Fu27 rfl Fs27 rfl ?_; clear hS
  intro tm hS
  obtain ⟨⟨r4, r5⟩, hx9, h0⟩ := bindS h0
  refine o_call hS (.inl rfl) rfl (fun wm' hw1 hw2 => wk39 ho120 y1 b1  v3 v4 (((hS.sel hw2).ad 9 rfl).ad 8 rfl) hx9) (fun wm' res H hw' hp => ?_)
  obtain ⟨v12, v13, hres, hI⟩ := hp
  replace hres := hres.symm; subst hres
  replace hS : S wm 161 _ H ((55, .tuple #[.agg #[.bool r4.Char, v12, v13], .int .i64 r5]) :: _) ([.own (rI .i64) v12 r4.Shape, .own (rI .i64) v13 r4.Data] ++ _) Fr := hS.after rfl hw' hI
  clear hI hw'
  refine o_pure hS (.inl rfl) rfl rfl ?_; clear hS
  intro tm hS
  refine o_pure hS (.inl rfl) rfl rfl ?_; clear hS
  intro tm hS
  refine o_pure hS (.inl rfl) rfl rfl ?_; clear hS
  intro tm hS
  refine o_alloc hS (.inl rfl) rfl Fz27 (by decide) ?_; clear hS H
  intro b4 tm H hS
  refine o_st (k := 0) hS (.inl rfl) rfl rfl rfl Fs27 rfl rfl (all_cons rfl (all_cons (hS.one (k := 1) rfl (.inr (.inl rfl))) (all_cons (hS.one (k := 2) rfl (.inr (.inl rfl))) all_nil))) rfl ?_; clear hS; try clear H
  intro H hS
  refine o_pure hS (.inl rfl) rfl rfl ?_; clear hS
  intro tm hS
  refine o_nil (hR _ _ ?_)
  clear hR R
  refine c_reg fun R hR => ?_
  refine o_pure hS (.inl rfl) rfl rfl ?_; clear hS
  intro tm hS
  refine o_ldA (k := 7) hS (.inl rfl) rfl rfl rfl (.inl rfl) Fu27 rfl Fs27 rfl ?_; clear hS
  intro tm hS
  obtain ⟨⟨r6, r7⟩, hx10, h0⟩ := bindS h0
  refine o_call hS (.inl rfl) rfl (fun wm' hw1 hw2 => wk45 ho76 y1 b1  v3 v4 (((hS.sel hw2).ad 12 rfl).ad 11 rfl) hx10) (fun wm' res H hw' hp => ?_)
  obtain ⟨v14, v15, hres, hI⟩ := hp
  replace hres := hres.symm; subst hres
  replace hS : S wm 161 _ H ((61, .tuple #[.agg #[.bool r6.Char, v14, v15], .int .i64 r7]) :: _) ([.own (rI .i64) v14 r6.Shape, .own (rI .i64) v15 r6.Data] ++ _) Fr := hS.after rfl hw' hI
  clear hI hw'
  refine o_pure hS (.inl rfl) rfl rfl ?_; clear hS
  intro tm hS
  refine o_pure hS (.inl rfl) rfl rfl ?_; clear hS
  intro tm hS
  refine o_pure hS (.inl rfl) rfl rfl ?_; clear hS
  intro tm hS
  refine o_alloc hS (.inl rfl) rfl Fz27 (by decide) ?_; clear hS H
  intro b5 tm H hS
  refine o_st (k := 0) hS (.inl rfl) rfl rfl rfl Fs27 rfl rfl (all_cons rfl (all_cons (hS.one (k := 1) rfl (.inr (.inl rfl))) (all_cons (hS.one (k := 2) rfl (.inr (.inl rfl))) all_nil))) rfl ?_; clear hS; try clear H
  intro H hS
  refine o_pure hS (.inl rfl) rfl rfl ?_; clear hS
  intro tm hS
  refine o_nil (hR _ _ ?_)
  clear hR R
  refine c_reg fun R hR => ?_
  refine o_pure hS (.inl rfl) rfl rfl ?_; clear hS
  intro tm hS
  refine o_ldA (k := 11) hS (.inl rfl) rfl rfl rfl (.inl rfl) Fu27 rfl Fs27 rfl ?_; clear hS
  intro tm hS
  refine o_ldA (k := 10) hS (.inl rfl) rfl rfl rfl (.inl rfl) Fu27 rfl Fs27 rfl ?_; clear hS
  intro tm hS
  obtain ⟨⟨r8, r9⟩, hx11, h0⟩ := bindS h0
  refine o_call hS (.inl rfl) rfl (fun wm' hw1 hw2 => wk14 ho52 y1 a1 b1  v1 v2 v3 v4 (((((hS.sel hw2).ad 15 rfl).ad 14 rfl).ad 13 rfl).ad 12 rfl) hx11) (fun wm' res H hw' hp => ?_)
  obtain ⟨v16, v17, hres, hI⟩ := hp
  replace hres := hres.symm; subst hres
  replace hS : S wm 161 _ H ((68, .tuple #[.agg #[.bool r8.Char, v16, v17], .int .i64 r9]) :: _) ([.own (rI .i64) v16 r8.Shape, .own (rI .i64) v17 r8.Data] ++ _) Fr := hS.after rfl hw' hI
  clear hI hw'
  refine o_pure hS (.inl rfl) rfl rfl ?_; clear hS
  intro tm hS
  refine o_pure hS (.inl rfl) rfl rfl ?_; clear hS
  intro tm hS
  refine o_pure hS (.inl rfl) rfl rfl ?_; clear hS
  intro tm hS
  refine o_alloc hS (.inl rfl) rfl Fz27 (by decide) ?_; clear hS H
  intro b6 tm H hS
  refine o_st (k := 0) hS (.inl rfl) rfl rfl rfl Fs27 rfl rfl (all_cons rfl (all_cons (hS.one (k := 1) rfl (.inr (.inl rfl))) (all_cons (hS.one (k := 2) rfl (.inr (.inl rfl))) all_nil))) rfl ?_; clear hS; try clear H
  intro H hS
  refine o_pure hS (.inl rfl) rfl rfl ?_; clear hS
  intro tm hS
  refine o_nil (hR _ _ ?_)
  clear hR R
  refine c_reg fun R hR => ?_
  refine o_pure hS (.inl rfl) rfl rfl ?_; clear hS
  intro tm hS
  refine o_ldA (k := 14) hS (.inl rfl) rfl rfl rfl (.inl rfl) Fu27 rfl Fs27 rfl ?_; clear hS
  intro tm hS
  refine o_ldA (k := 13) hS (.inl rfl) rfl rfl rfl (.inl rfl) Fu27 rfl Fs27 rfl ?_; clear hS
  intro tm hS
  obtain ⟨⟨r10, r11⟩, hx12, h0⟩ := bindS h0
  refine o_call hS (.inl rfl) rfl (fun wm' hw1 hw2 => wk46 ho44 y1 a1 b1  v1 v2 v3 v4 (((((hS.sel hw2).ad 18 rfl).ad 17 rfl).ad 16 rfl).ad 15 rfl) hx12) (fun wm' res H hw' hp => ?_)
  obtain ⟨v18, v19, hres, hI⟩ := hp
  replace hres := hres.symm; subst hres
  replace hS : S wm 161 _ H ((75, .tuple #[.agg #[.bool r10.Char, v18, v19], .int .i64 r11]) :: _) ([.own (rI .i64) v18 r10.Shape, .own (rI .i64) v19 r10.Data] ++ _) Fr := hS.after rfl hw' hI
  clear hI hw'
  refine o_pure hS (.inl rfl) rfl rfl ?_; clear hS
  intro tm hS
  refine o_pure hS (.inl rfl) rfl rfl ?_; clear hS
  intro tm hS
  refine o_pure hS (.inl rfl) rfl rfl ?_; clear hS
  intro tm hS
  refine o_alloc hS (.inl rfl) rfl Fz27 (by decide) ?_; clear hS H
  intro b7 tm H hS
  refine o_st (k := 0) hS (.inl rfl) rfl rfl rfl Fs27 rfl rfl (all_cons rfl (all_cons (hS.one (k := 1) rfl (.inr (.inl rfl))) (all_cons (hS.one (k := 2) rfl (.inr (.inl rfl))) all_nil))) rfl ?_; clear hS; try clear H
  intro H hS
  refine o_pure hS (.inl rfl) rfl rfl ?_; clear hS
  intro tm hS
  refine o_nil (hR _ _ ?_)
  clear hR R
  refine c_seqS ?_
  refine c_reg fun R hR => ?_
  refine o_pure hS (.inl rfl) rfl rfl ?_; clear hS
  intro tm hS
  refine o_pure hS (.inl rfl) rfl rfl ?_; clear hS
  intro tm hS
  refine o_pure hS (.inl rfl) rfl rfl ?_; clear hS
  intro tm hS
  refine o_pure hS (.inl rfl) rfl rfl ?_; clear hS
  intro tm hS
  obtain ⟨c2, hc2⟩ : ∃ x : Bool, x = ((r5 != r7) || (r9 != r11)) := ⟨_, rfl⟩
  refine o_cutN 4 (J := fun tm H => S wm 161 tm H [(85, .bool c2), (6, .pointer (some ⟨b2, 0, none⟩)), (7, .pointer (some ⟨b3, 0, none⟩)), (10, .string y1), (11, v9), (12, v11), (13, .pointer (some ⟨b4, 0, none⟩)), (15, .pointer (some ⟨b5, 0, none⟩)), (17, .pointer (some ⟨b6, 0, none⟩)), (19, .pointer (some ⟨b7, 0, none⟩))] [.box b7 [.bool r10.Char, v18, v19], .own (rI .i64) v18 r10.Shape, .own (rI .i64) v19 r10.Data, .box b6 [.bool r8.Char, v16, v17], .own (rI .i64) v16 r8.Shape, .own (rI .i64) v17 r8.Data, .box b5 [.bool r6.Char, v14, v15], .own (rI .i64) v14 r6.Shape, .own (rI .i64) v15 r6.Data, .box b4 [.bool r4.Char, v12, v13], .own (rI .i64) v12 r4.Shape, .own (rI .i64) v13 r4.Data, .own (rI .i64) v11 l3, .own (rI .i64) v9 l2, .box b3 [.bool b1.Char, v3, v4], .box b2 [.bool a1.Char, v1, v2], .fz (rI .i64) v1 a1.Shape, .fz (rI .i64) v2 a1.Data, .fz (rI .i64) v3 b1.Shape, .fz (rI .i64) v4 b1.Data] Fr) ?_ ?_
  ·rcases Bool.eq_false_or_eq_true (r5 != r7) with hg2 | hg2
   ·refine o_skip hS rfl rfl rfl hg2 ?_; clear hS
    intro tm hS
    refine o_skip hS rfl rfl rfl hg2 ?_; clear hS
    intro tm hS
    refine o_skip hS rfl rfl rfl hg2 ?_; clear hS
    intro tm hS
    refine o_pickT hS (.inl rfl) rfl rfl hg2 rfl ?_; clear hS
    intro tm hS
    have hc2 : c2 = true := hc2.trans (by rw [hg2]; first | rfl | simp)
    subst hc2
    exact o_nil (hS.keep (ka_cons rfl (ka_cons rfl (ka_cons rfl (ka_cons rfl (ka_cons rfl (ka_cons rfl (ka_cons rfl (ka_cons rfl (ka_cons rfl (ka_cons rfl ka_nil)))))))))) (fun hI => (hI.sub (sc (sc (sc (sc (sc (sc (sc (sc (sc (sc (sc (sc (sc (sc (sd (sd (sc (sc (sc (sc (sc (sc sn)))))))))))))))))))))))))
   ·refine o_pure hS (.inr ⟨_, _, _, _, rfl, rfl, rfl, hg2⟩) rfl rfl ?_; clear hS
    intro tm hS
    refine o_pure hS (.inr ⟨_, _, _, _, rfl, rfl, rfl, hg2⟩) rfl rfl ?_; clear hS
    intro tm hS
    refine o_pure hS (.inr ⟨_, _, _, _, rfl, rfl, rfl, hg2⟩) rfl rfl ?_; clear hS
    intro tm hS
    refine o_pickF hS (.inl rfl) rfl rfl hg2 rfl ?_; clear hS
    intro tm hS
    have hc2 : c2 = (r9 != r11) := hc2.trans (by rw [hg2]; first | rfl | simp)
    subst hc2
    exact o_nil (hS.keep (ka_cons rfl (ka_cons rfl (ka_cons rfl (ka_cons rfl (ka_cons rfl (ka_cons rfl (ka_cons rfl (ka_cons rfl (ka_cons rfl (ka_cons rfl ka_nil)))))))))) (fun hI => (hI.sub (sc (sc (sc (sc (sc (sc (sc (sc (sc (sc (sc (sc (sc (sc (sd (sd (sc (sc (sc (sc (sc (sc sn)))))))))))))))))))))))))
  intro tm H hS
  subst hc2
  refine o_pure hS (.inl rfl) rfl rfl ?_; clear hS
  intro tm hS
  obtain ⟨c3, hc3, h0⟩ := bindS h0
  refine o_cutN 5 (J := fun tm H => S wm 161 tm H [(91, .bool c3), (6, .pointer (some ⟨b2, 0, none⟩)), (7, .pointer (some ⟨b3, 0, none⟩)), (10, .string y1), (11, v9), (12, v11), (13, .pointer (some ⟨b4, 0, none⟩)), (17, .pointer (some ⟨b6, 0, none⟩)), (19, .pointer (some ⟨b7, 0, none⟩))] [.box b7 [.bool r10.Char, v18, v19], .own (rI .i64) v18 r10.Shape, .own (rI .i64) v19 r10.Data, .box b6 [.bool r8.Char, v16, v17], .own (rI .i64) v16 r8.Shape, .own (rI .i64) v17 r8.Data, .box b4 [.bool r4.Char, v12, v13], .own (rI .i64) v12 r4.Shape, .own (rI .i64) v13 r4.Data, .own (rI .i64) v11 l3, .own (rI .i64) v9 l2, .box b3 [.bool b1.Char, v3, v4], .box b2 [.bool a1.Char, v1, v2], .fz (rI .i64) v1 a1.Shape, .fz (rI .i64) v2 a1.Data, .fz (rI .i64) v3 b1.Shape, .fz (rI .i64) v4 b1.Data] Fr) ?_ ?_
  ·rcases Bool.eq_false_or_eq_true ((r5 != r7) || (r9 != r11)) with hg3 | hg3
   ·replace hc3 := iteT hg3 hc3
    refine o_skip hS rfl rfl rfl hg3 ?_; clear hS
    intro tm hS
    refine o_skip hS rfl rfl rfl hg3 ?_; clear hS
    intro tm hS
    refine o_skip hS rfl rfl rfl hg3 ?_; clear hS
    intro tm hS
    refine o_skip hS rfl rfl rfl hg3 ?_; clear hS
    intro tm hS
    refine o_pickT hS (.inl rfl) rfl rfl hg3 rfl ?_; clear hS
    intro tm hS
    obtain rfl := Option.some.inj hc3
    exact o_nil (hS.keep (ka_cons rfl (ka_cons rfl (ka_cons rfl (ka_cons rfl (ka_cons rfl (ka_cons rfl (ka_cons rfl (ka_cons rfl (ka_cons rfl ka_nil))))))))) (fun hI => (hI.sub (sc (sc (sc (sc (sc (sc (sd (sd (sd (sc (sc (sc (sc (sc (sc (sc (sc (sc (sc (sc sn)))))))))))))))))))))))
   ·replace hc3 := iteF hg3 hc3
    refine o_ldA (k := 9) hS (.inr ⟨_, _, _, _, rfl, rfl, rfl, hg3⟩) rfl rfl rfl (.inl rfl) Fu27 rfl Fs27 rfl ?_; clear hS
    intro tm hS
    refine o_ldA (k := 6) hS (.inr ⟨_, _, _, _, rfl, rfl, rfl, hg3⟩) rfl rfl rfl (.inl rfl) Fu27 rfl Fs27 rfl ?_; clear hS
    intro tm hS
    obtain ⟨r12, hx13, hc3⟩ := bindS hc3
    refine o_call (Pc := fun _ res H => res = .bool r12 ∧ Kn wm H ([.box b7 [.bool r10.Char, v18, v19], .own (rI .i64) v18 r10.Shape, .own (rI .i64) v19 r10.Data, .box b6 [.bool r8.Char, v16, v17], .own (rI .i64) v16 r8.Shape, .own (rI .i64) v17 r8.Data, .box b5 [.bool r6.Char, v14, v15], .own (rI .i64) v14 r6.Shape, .own (rI .i64) v15 r6.Data, .box b4 [.bool r4.Char, v12, v13], .own (rI .i64) v12 r4.Shape, .own (rI .i64) v13 r4.Data, .own (rI .i64) v11 l3, .own (rI .i64) v9 l2, .box b3 [.bool b1.Char, v3, v4], .box b2 [.bool a1.Char, v1, v2], .fz (rI .i64) v1 a1.Shape, .fz (rI .i64) v2 a1.Data, .fz (rI .i64) v3 b1.Shape, .fz (rI .i64) v4 b1.Data]) Fr) hS (.inr ⟨_, _, _, _, rfl, rfl, rfl, hg3⟩) rfl (fun wm' hw1 hw2 => by
     obtain ⟨F2, kk_1, kk_2⟩ := hS.inv.lend (La := [.fz (rI .i64) v12 r4.Shape, .fz (rI .i64) v13 r4.Data, .fz (rI .i64) v14 r6.Shape, .fz (rI .i64) v15 r6.Data]) (List.forall_mem_cons.mpr ⟨(.inr ⟨_, _, _, _, rfl, .inl (List.mem_of_getElem? (i := 10) rfl)⟩), (List.forall_mem_cons.mpr ⟨(.inr ⟨_, _, _, _, rfl, .inl (List.mem_of_getElem? (i := 11) rfl)⟩), (List.forall_mem_cons.mpr ⟨(.inr ⟨_, _, _, _, rfl, .inl (List.mem_of_getElem? (i := 7) rfl)⟩), (List.forall_mem_cons.mpr ⟨(.inr ⟨_, _, _, _, rfl, .inl (List.mem_of_getElem? (i := 8) rfl)⟩), (fun _ h => by cases h)⟩)⟩)⟩)⟩) hw1 hw2
     exact (wk17  r4 r6  v12 v13 v14 v15 kk_1 hx13).mono fun res H2 ⟨qq_1, qq_2⟩ => ⟨qq_1, kk_2 _ qq_2⟩) (fun wm' res H hw' hp => ?_)
    obtain ⟨hres, hI⟩ := hp
    replace hres := hres.symm; subst hres
    replace hS : S wm 161 _ H ((89, .bool r12) :: _) ([.box b7 [.bool r10.Char, v18, v19], .own (rI .i64) v18 r10.Shape, .own (rI .i64) v19 r10.Data, .box b6 [.bool r8.Char, v16, v17], .own (rI .i64) v16 r8.Shape, .own (rI .i64) v17 r8.Data, .box b5 [.bool r6.Char, v14, v15], .own (rI .i64) v14 r6.Shape, .own (rI .i64) v15 r6.Data, .box b4 [.bool r4.Char, v12, v13], .own (rI .i64) v12 r4.Shape, .own (rI .i64) v13 r4.Data, .own (rI .i64) v11 l3, .own (rI .i64) v9 l2, .box b3 [.bool b1.Char, v3, v4], .box b2 [.bool a1.Char, v1, v2], .fz (rI .i64) v1 a1.Shape, .fz (rI .i64) v2 a1.Data, .fz (rI .i64) v3 b1.Shape, .fz (rI .i64) v4 b1.Data]) Fr := (hS.put rfl _).withK hI
    clear hI hw'
    refine o_pure hS (.inr ⟨_, _, _, _, rfl, rfl, rfl, hg3⟩) rfl rfl ?_; clear hS
    intro tm hS
    refine o_pickF hS (.inl rfl) rfl rfl hg3 rfl ?_; clear hS
    intro tm hS
    obtain rfl := Option.some.inj hc3
    exact o_nil (hS.keep (ka_cons rfl (ka_cons rfl (ka_cons rfl (ka_cons rfl (ka_cons rfl (ka_cons rfl (ka_cons rfl (ka_cons rfl (ka_cons rfl ka_nil))))))))) (fun hI => (hI.sub (sc (sc (sc (sc (sc (sc (sd (sd (sd (sc (sc (sc (sc (sc (sc (sc (sc (sc (sc (sc sn)))))))))))))))))))))))
  intro tm H hS
  refine o_pure hS (.inl rfl) rfl rfl ?_; clear hS
  intro tm hS
  obtain ⟨c4, hc4, h0⟩ := bindS h0
  refine o_cutN 5 (J := fun tm H => S wm 161 tm H [(97, .bool c4), (6, .pointer (some ⟨b2, 0, none⟩)), (7, .pointer (some ⟨b3, 0, none⟩)), (10, .string y1), (11, v9), (12, v11), (13, .pointer (some ⟨b4, 0, none⟩)), (17, .pointer (some ⟨b6, 0, none⟩))] [.box b6 [.bool r8.Char, v16, v17], .own (rI .i64) v16 r8.Shape, .own (rI .i64) v17 r8.Data, .box b4 [.bool r4.Char, v12, v13], .own (rI .i64) v12 r4.Shape, .own (rI .i64) v13 r4.Data, .own (rI .i64) v11 l3, .own (rI .i64) v9 l2, .box b3 [.bool b1.Char, v3, v4], .box b2 [.bool a1.Char, v1, v2], .fz (rI .i64) v1 a1.Shape, .fz (rI .i64) v2 a1.Data, .fz (rI .i64) v3 b1.Shape, .fz (rI .i64) v4 b1.Data] Fr) ?_ ?_
  ·rcases Bool.eq_false_or_eq_true c3 with hg4 | hg4
   ·replace hc4 := iteT hg4 hc4
    refine o_skip hS rfl rfl rfl hg4 ?_; clear hS
    intro tm hS
    refine o_skip hS rfl rfl rfl hg4 ?_; clear hS
    intro tm hS
    refine o_skip hS rfl rfl rfl hg4 ?_; clear hS
    intro tm hS
    refine o_skip hS rfl rfl rfl hg4 ?_; clear hS
    intro tm hS
    refine o_pickT hS (.inl rfl) rfl rfl hg4 rfl ?_; clear hS
    intro tm hS
    obtain rfl := Option.some.inj hc4
    exact o_nil (hS.keep (ka_cons rfl (ka_cons rfl (ka_cons rfl (ka_cons rfl (ka_cons rfl (ka_cons rfl (ka_cons rfl (ka_cons rfl ka_nil)))))))) (fun hI => (hI.sub (sd (sd (sd (sc (sc (sc (sc (sc (sc (sc (sc (sc (sc (sc (sc (sc (sc sn))))))))))))))))))))
   ·replace hc4 := iteF hg4 hc4
    refine o_ldA (k := 3) hS (.inr ⟨_, _, _, _, rfl, rfl, rfl, hg4⟩) rfl rfl rfl (.inl rfl) Fu27 rfl Fs27 rfl ?_; clear hS
    intro tm hS
    refine o_ldA (k := 0) hS (.inr ⟨_, _, _, _, rfl, rfl, rfl, hg4⟩) rfl rfl rfl (.inl rfl) Fu27 rfl Fs27 rfl ?_; clear hS
    intro tm hS
    obtain ⟨r13, hx14, hc4⟩ := bindS hc4
    refine o_call (Pc := fun _ res H => res = .bool r13 ∧ Kn wm H ([.box b7 [.bool r10.Char, v18, v19], .own (rI .i64) v18 r10.Shape, .own (rI .i64) v19 r10.Data, .box b6 [.bool r8.Char, v16, v17], .own (rI .i64) v16 r8.Shape, .own (rI .i64) v17 r8.Data, .box b4 [.bool r4.Char, v12, v13], .own (rI .i64) v12 r4.Shape, .own (rI .i64) v13 r4.Data, .own (rI .i64) v11 l3, .own (rI .i64) v9 l2, .box b3 [.bool b1.Char, v3, v4], .box b2 [.bool a1.Char, v1, v2], .fz (rI .i64) v1 a1.Shape, .fz (rI .i64) v2 a1.Data, .fz (rI .i64) v3 b1.Shape, .fz (rI .i64) v4 b1.Data]) Fr) hS (.inr ⟨_, _, _, _, rfl, rfl, rfl, hg4⟩) rfl (fun wm' hw1 hw2 => by
     obtain ⟨F2, kk_1, kk_2⟩ := hS.inv.lend (La := [.fz (rI .i64) v16 r8.Shape, .fz (rI .i64) v17 r8.Data, .fz (rI .i64) v18 r10.Shape, .fz (rI .i64) v19 r10.Data]) (List.forall_mem_cons.mpr ⟨(.inr ⟨_, _, _, _, rfl, .inl (List.mem_of_getElem? (i := 4) rfl)⟩), (List.forall_mem_cons.mpr ⟨(.inr ⟨_, _, _, _, rfl, .inl (List.mem_of_getElem? (i := 5) rfl)⟩), (List.forall_mem_cons.mpr ⟨(.inr ⟨_, _, _, _, rfl, .inl (List.mem_of_getElem? (i := 1) rfl)⟩), (List.forall_mem_cons.mpr ⟨(.inr ⟨_, _, _, _, rfl, .inl (List.mem_of_getElem? (i := 2) rfl)⟩), (fun _ h => by cases h)⟩)⟩)⟩)⟩) hw1 hw2
     exact (wk17  r8 r10  v16 v17 v18 v19 kk_1 hx14).mono fun res H2 ⟨qq_1, qq_2⟩ => ⟨qq_1, kk_2 _ qq_2⟩) (fun wm' res H hw' hp => ?_)
    obtain ⟨hres, hI⟩ := hp
    replace hres := hres.symm; subst hres
    replace hS : S wm 161 _ H ((95, .bool r13) :: _) ([.box b7 [.bool r10.Char, v18, v19], .own (rI .i64) v18 r10.Shape, .own (rI .i64) v19 r10.Data, .box b6 [.bool r8.Char, v16, v17], .own (rI .i64) v16 r8.Shape, .own (rI .i64) v17 r8.Data, .box b4 [.bool r4.Char, v12, v13], .own (rI .i64) v12 r4.Shape, .own (rI .i64) v13 r4.Data, .own (rI .i64) v11 l3, .own (rI .i64) v9 l2, .box b3 [.bool b1.Char, v3, v4], .box b2 [.bool a1.Char, v1, v2], .fz (rI .i64) v1 a1.Shape, .fz (rI .i64) v2 a1.Data, .fz (rI .i64) v3 b1.Shape, .fz (rI .i64) v4 b1.Data]) Fr := (hS.put rfl _).withK hI
    clear hI hw'
    refine o_pure hS (.inr ⟨_, _, _, _, rfl, rfl, rfl, hg4⟩) rfl rfl ?_; clear hS
    intro tm hS
    refine o_pickF hS (.inl rfl) rfl rfl hg4 rfl ?_; clear hS
    intro tm hS
    obtain rfl := Option.some.inj hc4
    exact o_nil (hS.keep (ka_cons rfl (ka_cons rfl (ka_cons rfl (ka_cons rfl (ka_cons rfl (ka_cons rfl (ka_cons rfl (ka_cons rfl ka_nil)))))))) (fun hI => (hI.sub (sd (sd (sd (sc (sc (sc (sc (sc (sc (sc (sc (sc (sc (sc (sc (sc (sc sn))))))))))))))))))))
  intro tm H hS
  refine o_pure hS (.inl rfl) rfl rfl ?_; clear hS
  intro tm hS
  obtain ⟨c5, hc5, h0⟩ := bindS h0
  refine o_cutN 7 (J := fun tm H => S wm 161 tm H [(105, .bool c5), (6, .pointer (some ⟨b2, 0, none⟩)), (7, .pointer (some ⟨b3, 0, none⟩)), (11, v9), (12, v11), (13, .pointer (some ⟨b4, 0, none⟩)), (17, .pointer (some ⟨b6, 0, none⟩))] [.box b6 [.bool r8.Char, v16, v17], .own (rI .i64) v16 r8.Shape, .own (rI .i64) v17 r8.Data, .box b4 [.bool r4.Char, v12, v13], .own (rI .i64) v12 r4.Shape, .own (rI .i64) v13 r4.Data, .own (rI .i64) v11 l3, .own (rI .i64) v9 l2, .box b3 [.bool b1.Char, v3, v4], .box b2 [.bool a1.Char, v1, v2], .fz (rI .i64) v1 a1.Shape, .fz (rI .i64) v2 a1.Data, .fz (rI .i64) v3 b1.Shape, .fz (rI .i64) v4 b1.Data] Fr) ?_ ?_
  ·rcases Bool.eq_false_or_eq_true c4 with hg5 | hg5
   ·replace hc5 := iteT hg5 hc5
    refine o_skip hS rfl rfl rfl hg5 ?_; clear hS
    intro tm hS
    refine o_skip hS rfl rfl rfl hg5 ?_; clear hS
    intro tm hS
    refine o_skip hS rfl rfl rfl hg5 ?_; clear hS
    intro tm hS
    refine o_skip hS rfl rfl rfl hg5 ?_; clear hS
    intro tm hS
    refine o_skip hS rfl rfl rfl hg5 ?_; clear hS
    intro tm hS
    refine o_skip hS rfl rfl rfl hg5 ?_; clear hS
    intro tm hS
    refine o_pickT hS (.inl rfl) rfl rfl hg5 rfl ?_; clear hS
    intro tm hS
    obtain rfl := Option.some.inj hc5
    exact o_nil (hS.keep (ka_cons rfl (ka_cons rfl (ka_cons rfl (ka_cons rfl (ka_cons rfl (ka_cons rfl (ka_cons rfl ka_nil))))))) (fun hI => (hI.sub (sc (sc (sc (sc (sc (sc (sc (sc (sc (sc (sc (sc (sc (sc sn)))))))))))))))))
   ·replace hc5 := iteF hg5 hc5
    refine o_pure hS (.inr ⟨_, _, _, _, rfl, rfl, rfl, hg5⟩) rfl rfl ?_; clear hS
    intro tm hS
    obtain ⟨r14, hx15, hc5⟩ := bindS hc5
    refine o_call hS (.inr ⟨_, _, _, _, rfl, rfl, rfl, hg5⟩) rfl (fun wm' hw1 hw2 => wk43  y1   (hS.sel hw2) hx15) (fun wm' res H hw' hp => ?_)
    obtain ⟨hres, hI⟩ := hp
    replace hres := hres.symm; subst hres
    replace hS : S wm 161 _ H ((100, .bool r14) :: _) ([] ++ _) Fr := hS.after rfl hw' hI
    clear hI hw'
    obtain ⟨r15, hx16, hc5⟩ := bindS hc5
    refine o_call hS (.inr ⟨_, _, _, _, rfl, rfl, rfl, hg5⟩) rfl (fun wm' hw1 hw2 => wk44 ho44    (hS.sel hw2) hx16) (fun wm' res H hw' hp => ?_)
    obtain ⟨v20, hres, hI⟩ := hp
    replace hres := hres.symm; subst hres
    replace hS : S wm 161 _ H ((101, v20) :: _) ([.own rS v20 r15] ++ _) Fr := hS.after rfl hw' hI
    clear hI hw'
    refine o_pure hS (.inr ⟨_, _, _, _, rfl, rfl, rfl, hg5⟩) rfl rfl ?_; clear hS
    intro tm hS
    obtain ⟨r16, hx17, hc5⟩ := bindS hc5
    refine o_call (Pc := fun _ res H => res = .bool r16 ∧ Kn wm H ([.own rS v20 r15, .box b6 [.bool r8.Char, v16, v17], .own (rI .i64) v16 r8.Shape, .own (rI .i64) v17 r8.Data, .box b4 [.bool r4.Char, v12, v13], .own (rI .i64) v12 r4.Shape, .own (rI .i64) v13 r4.Data, .own (rI .i64) v11 l3, .own (rI .i64) v9 l2, .box b3 [.bool b1.Char, v3, v4], .box b2 [.bool a1.Char, v1, v2], .fz (rI .i64) v1 a1.Shape, .fz (rI .i64) v2 a1.Data, .fz (rI .i64) v3 b1.Shape, .fz (rI .i64) v4 b1.Data]) Fr) hS (.inr ⟨_, _, _, _, rfl, rfl, rfl, hg5⟩) rfl (fun wm' hw1 hw2 => by
     obtain ⟨F2, kk_1, kk_2⟩ := hS.inv.lend (La := [.fz rS v20 r15]) (List.forall_mem_cons.mpr ⟨(.inr ⟨_, _, _, _, rfl, .inl (List.mem_of_getElem? (i := 0) rfl)⟩), (fun _ h => by cases h)⟩) hw1 hw2
     exact (wk47  r15 y1  v20 kk_1 hx17).mono fun res H2 ⟨qq_1, qq_2⟩ => ⟨qq_1, kk_2 _ qq_2⟩) (fun wm' res H hw' hp => ?_)
    obtain ⟨hres, hI⟩ := hp
    replace hres := hres.symm; subst hres
    replace hS : S wm 161 _ H ((103, .bool r16) :: _) ([.own rS v20 r15, .box b6 [.bool r8.Char, v16, v17], .own (rI .i64) v16 r8.Shape, .own (rI .i64) v17 r8.Data, .box b4 [.bool r4.Char, v12, v13], .own (rI .i64) v12 r4.Shape, .own (rI .i64) v13 r4.Data, .own (rI .i64) v11 l3, .own (rI .i64) v9 l2, .box b3 [.bool b1.Char, v3, v4], .box b2 [.bool a1.Char, v1, v2], .fz (rI .i64) v1 a1.Shape, .fz (rI .i64) v2 a1.Data, .fz (rI .i64) v3 b1.Shape, .fz (rI .i64) v4 b1.Data]) Fr := (hS.put rfl _).withK hI
    clear hI hw'
    refine o_pure hS (.inr ⟨_, _, _, _, rfl, rfl, rfl, hg5⟩) rfl rfl ?_; clear hS
    intro tm hS
    refine o_pickF hS (.inl rfl) rfl rfl hg5 rfl ?_; clear hS
    intro tm hS
    obtain rfl := Option.some.inj hc5
    exact o_nil (hS.keep (ka_cons rfl (ka_cons rfl (ka_cons rfl (ka_cons rfl (ka_cons rfl (ka_cons rfl (ka_cons rfl ka_nil))))))) (fun hI => (hI.sub (sd (sc (sc (sc (sc (sc (sc (sc (sc (sc (sc (sc (sc (sc (sc sn))))))))))))))))))
  intro tm H hS
  refine o_nil (hR _ _ ?_)
  clear hR R
  refine c_cond hS rfl (fun hc => ?_) (fun hc => ?_)
  ·replace h0 := iteT hc h0
   refine c_reg fun R hR => ?_
   refine o_pure hS (.inl rfl) rfl rfl ?_; clear hS
   intro tm hS
   refine o_nil (hR _ _ ?_)
   clear hR R
   refine wpC.ret ?_
   obtain rfl := Option.some.inj h0
   refine Exists.intro _ (And.intro (rs_tmp hS rfl rs_nil) ?_)
   have hI := hS.inv
   exact ⟨rfl, (hI.sub sn)⟩
  ·replace h0 := iteF hc h0
   refine wpC.skip ?_
   refine c_seqS ?_
   refine c_reg fun R hR => ?_
   refine o_pure hS (.inl rfl) rfl rfl ?_; clear hS
   intro tm hS
   refine o_nil (hR _ _ ?_)
   clear hR R
   obtain ⟨k1, hw1, h0⟩ := bindS h0
   refine wpC.block ?_
   refine c_loop (I := fun (s : Int × (List Int)) tm H => match (generalizing := false) s with | (i1, l4) => S wm 161 tm H [(6, .pointer (some ⟨b2, 0, none⟩)), (7, .pointer (some ⟨b3, 0, none⟩)), (11, v9), (12, v11), (13, .pointer (some ⟨b4, 0, none⟩)), (17, .pointer (some ⟨b6, 0, none⟩)), (21, .int .i64 i1)] [.box b2 [.bool a1.Char, v1, v2], .box b3 [.bool b1.Char, v3, v4], .box b4 [.bool r4.Char, v12, v13], .box b6 [.bool r8.Char, v16, v17], .fz (rI .i64) v1 a1.Shape, .fz (rI .i64) v2 a1.Data, .fz (rI .i64) v3 b1.Shape, .fz (rI .i64) v4 b1.Data, .own (rI .i64) v9 l2, .own (rI .i64) v11 l3, .own (rI .i64) v12 r4.Shape, .own (rI .i64) v13 l4, .own (rI .i64) v16 r8.Shape, .own (rI .i64) v17 r8.Data] Fr) hw1 (by change S wm 161 _ _ _ _ Fr; exact hS.keep (ka_cons rfl (ka_cons rfl (ka_cons rfl (ka_cons rfl (ka_cons rfl (ka_cons rfl (ka_cons rfl ka_nil))))))) (fun hI => (((((((((((((((hI.pull 2 rfl).pull 2 rfl).pull 5 rfl).pull 5 rfl).pull 6 rfl).pull 7 rfl).pull 13 rfl).pull 13 rfl).pull 13 rfl).pull 13 rfl).pull 10 rfl).pull 11 rfl).pull 12 rfl).pull 13 rfl).take 14))) ?_
   clear hS
   intro s1 tm H c6 hS h1 hq1
   obtain ⟨i1, l4⟩ := s1
   change S wm 161 tm H [(6, .pointer (some ⟨b2, 0, none⟩)), (7, .pointer (some ⟨b3, 0, none⟩)), (11, v9), (12, v11), (13, .pointer (some ⟨b4, 0, none⟩)), (17, .pointer (some ⟨b6, 0, none⟩)), (21, .int .i64 i1)] [.box b2 [.bool a1.Char, v1, v2], .box b3 [.bool b1.Char, v3, v4], .box b4 [.bool r4.Char, v12, v13], .box b6 [.bool r8.Char, v16, v17], .fz (rI .i64) v1 a1.Shape, .fz (rI .i64) v2 a1.Data, .fz (rI .i64) v3 b1.Shape, .fz (rI .i64) v4 b1.Data, .own (rI .i64) v9 l2, .own (rI .i64) v11 l3, .own (rI .i64) v12 r4.Shape, .own (rI .i64) v13 l4, .own (rI .i64) v16 r8.Shape, .own (rI .i64) v17 r8.Data] Fr at hS
   refine c_seqS ?_
   refine c_reg fun R hR => ?_
   refine o_pure hS (.inl rfl) rfl rfl ?_; clear hS
   intro tm hS
   refine o_pure hS (.inl rfl) rfl rfl ?_; clear hS
   intro tm hS
   refine o_ld1 (k := 2) hS (.inl rfl) rfl rfl rfl (.inl rfl) Fu23 rfl rfl ?_; clear hS
   intro tm hS
   refine o_len (k := 11) (r := (rI .i64)) hS (.inl rfl) rfl rfl rfl (.inr (.inl rfl)) Fu23 rfl ?_; clear hS
   intro tm hS
   refine o_pure hS (.inl rfl) rfl rfl ?_; clear hS
   intro tm hS
   refine o_nil (hR _ _ ?_)
   clear hR R
   refine c_cond hS rfl (fun hc => ?_) (fun hc => ?_)
   ·replace h1 := iteT hc h1
    refine wpC.skip ?_
    refine c_seqS ?_
    refine wpC.block ?_
    refine c_reg1 fun R hR => ?_
    refine o_pure hS (.inl rfl) rfl rfl ?_; clear hS
    intro tm hS
    refine o_ld1 (k := 2) hS (.inl rfl) rfl rfl rfl (.inl rfl) Fu23 rfl rfl ?_; clear hS
    intro tm hS
    refine o_pure hS (.inl rfl) rfl rfl ?_; clear hS
    intro tm hS
    obtain ⟨y2, hx18, h1⟩ := bindS h1
    refine o_ixA (k := 11) (r := (rI .i64)) hS (.inl rfl) rfl rfl rfl rfl (.inr (.inl rfl)) Fu23 Fs2 hx18 ?_; clear hS
    intro tm hS
    obtain ⟨l5, hx19, h1⟩ := bindS h1
    refine o_stE (k := 11) (r := (rI .i64)) hS (.inl rfl) rfl rfl rfl Fs2 rfl rfl (rd_flat fun _ => rfl) hx19 ?_; clear hS; try clear H
    intro H hS
    refine o_nil (hR _ _ ?_)
    clear hR R
    refine c_reg1 fun R hR => ?_
    refine o_pure hS (.inl rfl) rfl rfl ?_; clear hS
    intro tm hS
    refine o_pure hS (.inl rfl) rfl rfl ?_; clear hS
    intro tm hS
    refine o_pure hS (.inl rfl) rfl rfl ?_; clear hS
    intro tm hS
    refine o_nil (hR _ _ ?_)
    clear hR R
    obtain rfl := Option.some.inj h1
    refine ⟨_, rfl, ?_⟩
    change S wm 161 _ _ _ _ Fr; exact hS.keep (ka_cons rfl (ka_cons rfl (ka_cons rfl (ka_cons rfl (ka_cons rfl (ka_cons rfl (ka_cons rfl ka_nil))))))) (fun hI => (hI.sub (sc (sc (sc (sc (sc (sc (sc (sc (sc (sc (sc (sc (sc (sc sn))))))))))))))))
   ·replace h1 := iteF hc h1
    refine wpC.exit ?_
    refine seqX ?_
    obtain rfl := Option.some.inj h1
    obtain rfl := hq1 _ rfl
    refine And.intro rfl (blk_eq ?_)
    replace h0 := joinN h0
    refine c_seqS ?_
    refine c_reg fun R hR => ?_
    refine o_pure hS (.inl rfl) rfl rfl ?_; clear hS
    intro tm hS
    refine o_nil (hR _ _ ?_)
    clear hR R
    obtain ⟨k2, hw2, h0⟩ := bindS h0
    refine wpC.block ?_
    refine c_loop (I := fun (s : Int × (List Int)) tm H => match (generalizing := false) s with | (i2, l6) => S wm 161 tm H [(6, .pointer (some ⟨b2, 0, none⟩)), (7, .pointer (some ⟨b3, 0, none⟩)), (11, v9), (12, v11), (17, .pointer (some ⟨b6, 0, none⟩)), (22, .int .i64 i2)] [.box b2 [.bool a1.Char, v1, v2], .box b3 [.bool b1.Char, v3, v4], .box b6 [.bool r8.Char, v16, v17], .fz (rI .i64) v1 a1.Shape, .fz (rI .i64) v2 a1.Data, .fz (rI .i64) v3 b1.Shape, .fz (rI .i64) v4 b1.Data, .own (rI .i64) v9 l2, .own (rI .i64) v11 l3, .own (rI .i64) v16 r8.Shape, .own (rI .i64) v17 l6] Fr) hw2 (by change S wm 161 _ _ _ _ Fr; exact hS.keep (ka_cons rfl (ka_cons rfl (ka_cons rfl (ka_cons rfl (ka_cons rfl (ka_cons rfl ka_nil)))))) (fun hI => (hI.sub (sc (sc (sd (sc (sc (sc (sc (sc (sc (sc (sd (sd (sc (sc sn))))))))))))))))) ?_
    clear hS
    intro s2 tm H c7 hS h9 hq9
    obtain ⟨i2, l6⟩ := s2
    change S wm 161 tm H [(6, .pointer (some ⟨b2, 0, none⟩)), (7, .pointer (some ⟨b3, 0, none⟩)), (11, v9), (12, v11), (17, .pointer (some ⟨b6, 0, none⟩)), (22, .int .i64 i2)] [.box b2 [.bool a1.Char, v1, v2], .box b3 [.bool b1.Char, v3, v4], .box b6 [.bool r8.Char, v16, v17], .fz (rI .i64) v1 a1.Shape, .fz (rI .i64) v2 a1.Data, .fz (rI .i64) v3 b1.Shape, .fz (rI .i64) v4 b1.Data, .own (rI .i64) v9 l2, .own (rI .i64) v11 l3, .own (rI .i64) v16 r8.Shape, .own (rI .i64) v17 l6] Fr at hS
    refine c_seqS ?_
    refine c_reg fun R hR => ?_
    refine o_pure hS (.inl rfl) rfl rfl ?_; clear hS
    intro tm hS
    refine o_pure hS (.inl rfl) rfl rfl ?_; clear hS
    intro tm hS
    refine o_ld1 (k := 2) hS (.inl rfl) rfl rfl rfl (.inl rfl) Fu23 rfl rfl ?_; clear hS
    intro tm hS
    refine o_len (k := 10) (r := (rI .i64)) hS (.inl rfl) rfl rfl rfl (.inr (.inl rfl)) Fu23 rfl ?_; clear hS
    intro tm hS
    refine o_pure hS (.inl rfl) rfl rfl ?_; clear hS
    intro tm hS
    refine o_nil (hR _ _ ?_)
    clear hR R
    refine c_cond hS rfl (fun hc => ?_) (fun hc => ?_)
    ·replace h9 := iteT hc h9
     refine wpC.skip ?_
     refine c_seqS ?_
     refine wpC.block ?_
     refine c_reg1 fun R hR => ?_
     refine o_pure hS (.inl rfl) rfl rfl ?_; clear hS
     intro tm hS
     refine o_ld1 (k := 2) hS (.inl rfl) rfl rfl rfl (.inl rfl) Fu23 rfl rfl ?_; clear hS
     intro tm hS
     refine o_pure hS (.inl rfl) rfl rfl ?_; clear hS
     intro tm hS
     obtain ⟨y3, hx20, h9⟩ := bindS h9
     refine o_ixA (k := 10) (r := (rI .i64)) hS (.inl rfl) rfl rfl rfl rfl (.inr (.inl rfl)) Fu23 Fs2 hx20 ?_; clear hS
     intro tm hS
     obtain ⟨l7, hx21, h9⟩ := bindS h9
     refine o_stE (k := 10) (r := (rI .i64)) hS (.inl rfl) rfl rfl rfl Fs2 rfl rfl (rd_flat fun _ => rfl) hx21 ?_; clear hS; try clear H
     intro H hS
     refine o_nil (hR _ _ ?_)
     clear hR R
     refine c_reg1 fun R hR => ?_
     refine o_pure hS (.inl rfl) rfl rfl ?_; clear hS
     intro tm hS
     refine o_pure hS (.inl rfl) rfl rfl ?_; clear hS
     intro tm hS
     refine o_pure hS (.inl rfl) rfl rfl ?_; clear hS
     intro tm hS
     refine o_nil (hR _ _ ?_)
     clear hR R
     obtain rfl := Option.some.inj h9
     refine ⟨_, rfl, ?_⟩
     change S wm 161 _ _ _ _ Fr; exact hS.keep (ka_cons rfl (ka_cons rfl (ka_cons rfl (ka_cons rfl (ka_cons rfl (ka_cons rfl ka_nil)))))) (fun hI => (hI.sub (sc (sc (sc (sc (sc (sc (sc (sc (sc (sc (sc sn)))))))))))))
    ·replace h9 := iteF hc h9
     refine wpC.exit ?_
     refine seqX ?_
     obtain rfl := Option.some.inj h9
     obtain rfl := hq9 _ rfl
     refine And.intro rfl (blk_eq ?_)
     replace h0 := joinN h0
     refine c_seqS ?_
     refine c_reg fun R hR => ?_
     refine o_pure hS (.inl rfl) rfl rfl ?_; clear hS
     intro tm hS
     refine o_nil (hR _ _ ?_)
     clear hR R
     obtain ⟨k3, hw3, h0⟩ := bindS h0
     refine wpC.block ?_
     refine c_loop (I := fun (s : Int) tm H => match (generalizing := false) s with | i3 => S wm 161 tm H [(6, .pointer (some ⟨b2, 0, none⟩)), (7, .pointer (some ⟨b3, 0, none⟩)), (11, v9), (12, v11), (23, .int .i64 i3)] [.box b2 [.bool a1.Char, v1, v2], .box b3 [.bool b1.Char, v3, v4], .fz (rI .i64) v1 a1.Shape, .fz (rI .i64) v2 a1.Data, .fz (rI .i64) v3 b1.Shape, .fz (rI .i64) v4 b1.Data, .own (rI .i64) v9 l2, .own (rI .i64) v11 l3] Fr) hw3 (by change S wm 161 _ _ _ _ Fr; exact hS.keep (ka_cons rfl (ka_cons rfl (ka_cons rfl (ka_cons rfl (ka_cons rfl ka_nil))))) (fun hI => (hI.sub (sc (sc (sd (sc (sc (sc (sc (sc (sc sn)))))))))))) ?_
     clear hS
     intro i3 tm H c8 hS h13 hq13
     change S wm 161 tm H [(6, .pointer (some ⟨b2, 0, none⟩)), (7, .pointer (some ⟨b3, 0, none⟩)), (11, v9), (12, v11), (23, .int .i64 i3)] [.box b2 [.bool a1.Char, v1, v2], .box b3 [.bool b1.Char, v3, v4], .fz (rI .i64) v1 a1.Shape, .fz (rI .i64) v2 a1.Data, .fz (rI .i64) v3 b1.Shape, .fz (rI .i64) v4 b1.Data, .own (rI .i64) v9 l2, .own (rI .i64) v11 l3] Fr at hS
     refine c_seqS ?_
     refine c_reg fun R hR => ?_
     refine o_pure hS (.inl rfl) rfl rfl ?_; clear hS
     intro tm hS
     refine o_pure hS (.inl rfl) rfl rfl ?_; clear hS
     intro tm hS
     refine o_len (k := 6) (r := (rI .i64)) hS (.inl rfl) rfl rfl rfl (.inr (.inl rfl)) Fu23 rfl ?_; clear hS
     intro tm hS
     refine o_pure hS (.inl rfl) rfl rfl ?_; clear hS
     intro tm hS
     refine o_nil (hR _ _ ?_)
     clear hR R
     refine c_cond hS rfl (fun hc => ?_) (fun hc => ?_)
     ·replace h13 := iteT hc h13
      refine wpC.skip ?_
      refine c_seqS ?_
      refine wpC.block ?_
      refine c_reg fun R hR => ?_
      refine o_pure hS (.inl rfl) rfl rfl ?_; clear hS
      intro tm hS
      refine o_pure hS (.inl rfl) rfl rfl ?_; clear hS
      intro tm hS
      obtain ⟨y4, hx22, h13⟩ := bindS h13
      refine o_ixA (k := 6) (r := (rI .i64)) hS (.inl rfl) rfl rfl rfl rfl (.inr (.inl rfl)) Fu23 Fs2 hx22 ?_; clear hS
      intro tm hS
      refine o_ldF (r := (rI .i64)) (k := 6) hS (.inl rfl) rfl rfl rfl (.inr (.inl rfl)) hx22 Fu2 rfl (flat_I _) rfl ?_; clear hS
      intro tm hS
      refine o_pure hS (.inl rfl) rfl rfl ?_; clear hS
      intro tm hS
      refine o_ld1 (k := 0) hS (.inl rfl) rfl rfl rfl (.inl rfl) Fu23 rfl rfl ?_; clear hS
      intro tm hS
      refine o_pure hS (.inl rfl) rfl rfl ?_; clear hS
      intro tm hS
      obtain ⟨y5, hx23, h13⟩ := bindS h13
      refine o_ixA (k := 3) (r := (rI .i64)) hS (.inl rfl) rfl rfl rfl rfl (.inl rfl) Fu23 Fs2 hx23 ?_; clear hS
      intro tm hS
      refine o_ldF (r := (rI .i64)) (k := 3) hS (.inl rfl) rfl rfl rfl (.inl rfl) hx23 Fu2 rfl (flat_I _) rfl ?_; clear hS
      intro tm hS
      refine o_pure hS (.inl rfl) rfl rfl ?_; clear hS
      intro tm hS
      refine o_nil (hR _ _ ?_)
      clear hR R
      refine c_cond hS rfl (fun hc => ?_) (fun hc => ?_)
      ·replace h13 := iteT hc h13
       refine c_reg fun R hR => ?_
       refine o_pure hS (.inl rfl) rfl rfl ?_; clear hS
       intro tm hS
       refine o_nil (hR _ _ ?_)
       clear hR R
       refine wpC.ret ?_
       obtain rfl := Option.some.inj h13
       obtain rfl := hq13 _ rfl
       refine And.intro rfl ?_
       obtain rfl := leave h0
       refine Exists.intro _ (And.intro (rs_tmp hS rfl rs_nil) ?_)
       have hI := hS.inv
       exact ⟨rfl, (hI.sub sn)⟩
      ·replace h13 := iteF hc h13
       refine wpC.skip ?_
       refine c_reg1 fun R hR => ?_
       refine o_pure hS (.inl rfl) rfl rfl ?_; clear hS
       intro tm hS
       refine o_pure hS (.inl rfl) rfl rfl ?_; clear hS
       intro tm hS
       refine o_pure hS (.inl rfl) rfl rfl ?_; clear hS
       intro tm hS
       refine o_nil (hR _ _ ?_)
       clear hR R
       obtain rfl := Option.some.inj h13
       refine ⟨_, rfl, ?_⟩
       change S wm 161 _ _ _ _ Fr; exact hS.keep (ka_cons rfl (ka_cons rfl (ka_cons rfl (ka_cons rfl (ka_cons rfl ka_nil))))) (fun hI => (hI.sub (sc (sc (sc (sc (sc (sc (sc (sc sn))))))))))
     ·replace h13 := iteF hc h13
      refine wpC.exit ?_
      refine seqX ?_
      obtain rfl := Option.some.inj h13
      obtain rfl := hq13 _ rfl
      refine And.intro rfl (blk_eq ?_)
      replace h0 := joinN h0
      refine c_seqS ?_
      refine c_reg fun R hR => ?_
      refine o_pure hS (.inl rfl) rfl rfl ?_; clear hS
      intro tm hS
      refine o_nil (hR _ _ ?_)
      clear hR R
      obtain ⟨k4, hw4, h0⟩ := bindS h0
      refine wpC.block ?_
      refine c_loop (I := fun (s : Int) tm H => match (generalizing := false) s with | i4 => S wm 161 tm H [(7, .pointer (some ⟨b3, 0, none⟩)), (12, v11), (24, .int .i64 i4)] [.box b3 [.bool b1.Char, v3, v4], .fz (rI .i64) v3 b1.Shape, .fz (rI .i64) v4 b1.Data, .own (rI .i64) v11 l3] Fr) hw4 (by change S wm 161 _ _ _ _ Fr; exact hS.keep (ka_cons rfl (ka_cons rfl (ka_cons rfl ka_nil))) (fun hI => (hI.sub (sd (sc (sd (sd (sc (sc (sd (sc sn))))))))))) ?_
      clear hS
      intro i4 tm H c9 hS h15 hq15
      change S wm 161 tm H [(7, .pointer (some ⟨b3, 0, none⟩)), (12, v11), (24, .int .i64 i4)] [.box b3 [.bool b1.Char, v3, v4], .fz (rI .i64) v3 b1.Shape, .fz (rI .i64) v4 b1.Data, .own (rI .i64) v11 l3] Fr at hS
      refine c_seqS ?_
      refine c_reg fun R hR => ?_
      refine o_pure hS (.inl rfl) rfl rfl ?_; clear hS
      intro tm hS
      refine o_pure hS (.inl rfl) rfl rfl ?_; clear hS
      intro tm hS
      refine o_len (k := 3) (r := (rI .i64)) hS (.inl rfl) rfl rfl rfl (.inr (.inl rfl)) Fu23 rfl ?_; clear hS
      intro tm hS
      refine o_pure hS (.inl rfl) rfl rfl ?_; clear hS
      intro tm hS
      refine o_nil (hR _ _ ?_)
      clear hR R
      refine c_cond hS rfl (fun hc => ?_) (fun hc => ?_)
      ·replace h15 := iteT hc h15
       refine wpC.skip ?_
       refine c_seqS ?_
       refine wpC.block ?_
       refine c_reg fun R hR => ?_
       refine o_pure hS (.inl rfl) rfl rfl ?_; clear hS
       intro tm hS
       refine o_pure hS (.inl rfl) rfl rfl ?_; clear hS
       intro tm hS
       obtain ⟨y6, hx24, h15⟩ := bindS h15
       refine o_ixA (k := 3) (r := (rI .i64)) hS (.inl rfl) rfl rfl rfl rfl (.inr (.inl rfl)) Fu23 Fs2 hx24 ?_; clear hS
       intro tm hS
       refine o_ldF (r := (rI .i64)) (k := 3) hS (.inl rfl) rfl rfl rfl (.inr (.inl rfl)) hx24 Fu2 rfl (flat_I _) rfl ?_; clear hS
       intro tm hS
       refine o_pure hS (.inl rfl) rfl rfl ?_; clear hS
       intro tm hS
       refine o_ld1 (k := 0) hS (.inl rfl) rfl rfl rfl (.inl rfl) Fu23 rfl rfl ?_; clear hS
       intro tm hS
       refine o_pure hS (.inl rfl) rfl rfl ?_; clear hS
       intro tm hS
       obtain ⟨y7, hx25, h15⟩ := bindS h15
       refine o_ixA (k := 2) (r := (rI .i64)) hS (.inl rfl) rfl rfl rfl rfl (.inl rfl) Fu23 Fs2 hx25 ?_; clear hS
       intro tm hS
       refine o_ldF (r := (rI .i64)) (k := 2) hS (.inl rfl) rfl rfl rfl (.inl rfl) hx25 Fu2 rfl (flat_I _) rfl ?_; clear hS
       intro tm hS
       refine o_pure hS (.inl rfl) rfl rfl ?_; clear hS
       intro tm hS
       refine o_nil (hR _ _ ?_)
       clear hR R
       refine c_cond hS rfl (fun hc => ?_) (fun hc => ?_)
       ·replace h15 := iteT hc h15
        refine c_reg fun R hR => ?_
        refine o_pure hS (.inl rfl) rfl rfl ?_; clear hS
        intro tm hS
        refine o_nil (hR _ _ ?_)
        clear hR R
        refine wpC.ret ?_
        obtain rfl := Option.some.inj h15
        obtain rfl := hq15 _ rfl
        refine And.intro rfl ?_
        obtain rfl := leave h0
        refine Exists.intro _ (And.intro (rs_tmp hS rfl rs_nil) ?_)
        have hI := hS.inv
        exact ⟨rfl, (hI.sub sn)⟩
       ·replace h15 := iteF hc h15
        refine wpC.skip ?_
        refine c_reg1 fun R hR => ?_
        refine o_pure hS (.inl rfl) rfl rfl ?_; clear hS
        intro tm hS
        refine o_pure hS (.inl rfl) rfl rfl ?_; clear hS
        intro tm hS
        refine o_pure hS (.inl rfl) rfl rfl ?_; clear hS
        intro tm hS
        refine o_nil (hR _ _ ?_)
        clear hR R
        obtain rfl := Option.some.inj h15
        refine ⟨_, rfl, ?_⟩
        change S wm 161 _ _ _ _ Fr; exact hS.keep (ka_cons rfl (ka_cons rfl (ka_cons rfl ka_nil))) (fun hI => (hI.sub (sc (sc (sc (sc sn))))))
      ·replace h15 := iteF hc h15
       refine wpC.exit ?_
       refine seqX ?_
       obtain rfl := Option.some.inj h15
       obtain rfl := hq15 _ rfl
       refine And.intro rfl (blk_eq ?_)
       replace h0 := joinN h0
       refine c_reg fun R hR => ?_
       refine o_call hS (.inl rfl) rfl (fun wm' hw1 hw2 => wpF.told ho13 (Q := fun v H' => v = .bool true ∧ H' = H) ⟨rfl, rfl⟩) (fun wm' res H hw' hp => ?_)
       obtain ⟨rfl, rfl⟩ := hp
       replace hS := hS.put (d := 160) rfl (.bool true)
       clear hw'
       refine o_pure hS (.inl rfl) rfl rfl ?_; clear hS
       intro tm hS
       refine o_nil (hR _ _ ?_)
       clear hR R
       refine wpC.ret ?_
       obtain rfl := Option.some.inj h0
       refine Exists.intro _ (And.intro (rs_tmp hS rfl rs_nil) ?_)
       have hI := hS.inv
       exact ⟨rfl, (hI.sub sn)⟩
end Go.Proofs.Ytaedfhikoamfeaa.scalarTells
