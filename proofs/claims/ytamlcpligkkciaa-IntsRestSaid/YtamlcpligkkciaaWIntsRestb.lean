/- IntsRest: walks of the code: the run of each function comes to what its plain function says. -/
import Derived.Test.YtamlcpligkkciaaWIntsResta
set_option linter.unusedVariables false
set_option linter.unusedSimpArgs false
set_option maxRecDepth 100000
open Go Go.Am Go.Proofs
namespace Go.Proofs.Ytamlcpligkkciaa.intsRest
variable {ora : FuncId → Bool}
theorem wk8 {wm : Nat} {H : AHeap} {Fr : List Ent} (ho32 : ora 32 = true) (ho48 : ora 48 = false) (a1 : Int) (b1 : Int)   (hI : Kn wm H [] Fr) {r : Bool} (h0 : M.anamnesislaw01_IntsRest a1 b1 = some r) :
  wpF Try.prog ora wm 8 [.int .i64 a1, .int .i64 b1] H (fun res H => res = .bool r ∧ Kn wm H [] Fr) := by
 unfold M.anamnesislaw01_IntsRest at h0
 refine f_enter (n := 125) Try.func8 rfl (by simp) hI rfl rfl rfl fun tm hS => ?_
 clear hI
 refine c_reg fun R hR => ?_
 refine o_pure hS (.inl rfl) rfl rfl ?_; clear hS; try clear tm
 intro tm hS
 refine o_nil (hR _ _ ?_)
 clear hR R
 refine c_reg fun R hR => ?_
 refine o_pure hS (.inl rfl) rfl rfl ?_; clear hS; try clear tm
 intro tm hS
 refine o_pure hS (.inl rfl) rfl rfl ?_; clear hS; try clear tm
 intro tm hS
 obtain ⟨⟨r1, r2⟩, hx1, h0⟩ := bindS h0
 refine o_call hS (.inl rfl) rfl (fun wm' hw1 hw2 => wk31 ho48 str_124 a1 b1   (hS.sel hw2) hx1) (fun wm' res H hw' hp => ?_)
 obtain ⟨hres, hI⟩ := hp
 replace hres := hres.symm; subst hres
 replace hS : S wm 125 _ H ((18, .tuple #[.int .i64 r1, .int .i64 r2]) :: _) ([] ++ _) Fr := hS.after rfl hw' hI
 clear hI hw'
 refine o_pure hS (.inl rfl) rfl rfl ?_; clear hS; try clear tm
 intro tm hS
 refine o_pure hS (.inl rfl) rfl rfl ?_; clear hS; try clear tm
 intro tm hS
 refine o_pure hS (.inl rfl) rfl rfl ?_; clear hS; try clear tm
 intro tm hS
 refine o_pure hS (.inl rfl) rfl rfl ?_; clear hS; try clear tm
 intro tm hS
 refine o_pure hS (.inl rfl) rfl rfl ?_; clear hS; try clear tm
 intro tm hS
 refine o_nil (hR _ _ ?_)
 clear hR R
 refine c_seqS ?_
 refine c_reg fun R hR => ?_
 refine o_pure hS (.inl rfl) rfl rfl ?_; clear hS; try clear tm
 intro tm hS
 refine o_pure hS (.inl rfl) rfl rfl ?_; clear hS; try clear tm
 intro tm hS
 refine o_pure hS (.inl rfl) rfl rfl ?_; clear hS; try clear tm
 intro tm hS
 obtain ⟨c1, hc1⟩ : ∃ x : Bool, x = ((r2 != 0) || ((decide (a1 > 0)) && ((decide (r1 < 0)) || (decide (r1 ≥ a1))))) := ⟨_, rfl⟩
 refine o_cutN 12 (J := fun tm H => S wm 125 tm H [(35, .bool c1), (0, .int .i64 a1), (1, .int .i64 b1), (5, .int .i64 r1)] [] Fr) ?_ ?_
 ·rcases Bool.eq_false_or_eq_true (r2 != 0) with hg1 | hg1
  ·refine o_skip hS rfl rfl rfl hg1 ?_; clear hS; try clear tm
   intro tm hS
   refine o_skip hS rfl rfl rfl hg1 ?_; clear hS; try clear tm
   intro tm hS
   refine o_skip hS rfl rfl rfl hg1 ?_; clear hS; try clear tm
   intro tm hS
   refine o_skipU hS rfl rfl rfl ?_; clear hS; try clear tm
   intro tm hS
   refine o_skipU hS rfl rfl rfl ?_; clear hS; try clear tm
   intro tm hS
   refine o_skipU hS rfl rfl rfl ?_; clear hS; try clear tm
   intro tm hS
   refine o_skipU hS rfl rfl rfl ?_; clear hS; try clear tm
   intro tm hS
   refine o_skipU hS rfl rfl rfl ?_; clear hS; try clear tm
   intro tm hS
   refine o_skipU hS rfl rfl rfl ?_; clear hS; try clear tm
   intro tm hS
   refine o_skipU hS rfl rfl rfl ?_; clear hS; try clear tm
   intro tm hS
   refine o_skip hS rfl rfl rfl hg1 ?_; clear hS; try clear tm
   intro tm hS
   refine o_pickT hS (.inl rfl) rfl rfl hg1 rfl ?_; clear hS; try clear tm
   intro tm hS
   have hc1 : c1 = true := hc1.trans (by rw [hg1]; first | rfl | simp)
   subst hc1
   exact o_nil (hS.keep (ka_cons rfl (ka_cons rfl (ka_cons rfl (ka_cons rfl ka_nil)))) (fun hI => (hI.sub sn)))
  ·refine o_pure hS (.inr ⟨_, _, _, _, rfl, rfl, rfl, hg1⟩) rfl rfl ?_; clear hS; try clear tm
   intro tm hS
   refine o_pure hS (.inr ⟨_, _, _, _, rfl, rfl, rfl, hg1⟩) rfl rfl ?_; clear hS; try clear tm
   intro tm hS
   refine o_pure hS (.inr ⟨_, _, _, _, rfl, rfl, rfl, hg1⟩) rfl rfl ?_; clear hS; try clear tm
   intro tm hS
   obtain ⟨c2, hc2⟩ : ∃ x : Bool, x = ((decide (a1 > 0)) && ((decide (r1 < 0)) || (decide (r1 ≥ a1)))) := ⟨_, rfl⟩
   refine o_cutN 8 (J := fun tm H => S wm 125 tm H [(34, .bool c2), (0, .int .i64 a1), (1, .int .i64 b1), (5, .int .i64 r1), (23, .bool (r2 != 0))] [] Fr) ?_ ?_
   ·rcases Bool.eq_false_or_eq_true (decide (a1 > 0)) with hg2 | hg2
    ·refine o_pure hS (.inr ⟨_, _, _, _, rfl, rfl, rfl, hg2⟩) rfl rfl ?_; clear hS; try clear tm
     intro tm hS
     refine o_pure hS (.inr ⟨_, _, _, _, rfl, rfl, rfl, hg2⟩) rfl rfl ?_; clear hS; try clear tm
     intro tm hS
     refine o_pure hS (.inr ⟨_, _, _, _, rfl, rfl, rfl, hg2⟩) rfl rfl ?_; clear hS; try clear tm
     intro tm hS
     obtain ⟨c3, hc3⟩ : ∃ x : Bool, x = ((decide (r1 < 0)) || (decide (r1 ≥ a1))) := ⟨_, rfl⟩
     refine o_cutN 4 (J := fun tm H => S wm 125 tm H [(33, .bool c3), (0, .int .i64 a1), (1, .int .i64 b1), (5, .int .i64 r1), (23, .bool (r2 != 0)), (26, .bool (decide (a1 > 0)))] [] Fr) ?_ ?_
     ·rcases Bool.eq_false_or_eq_true (decide (r1 < 0)) with hg3 | hg3
      ·refine o_skip hS rfl rfl rfl hg3 ?_; clear hS; try clear tm
       intro tm hS
       refine o_skip hS rfl rfl rfl hg3 ?_; clear hS; try clear tm
       intro tm hS
       refine o_skip hS rfl rfl rfl hg3 ?_; clear hS; try clear tm
       intro tm hS
       refine o_pickT hS (.inr ⟨_, _, _, _, rfl, rfl, rfl, hg2⟩) rfl rfl hg3 rfl ?_; clear hS; try clear tm
       intro tm hS
       have hc3 : c3 = true := hc3.trans (by rw [hg3]; first | rfl | simp)
       subst hc3
       exact o_nil (hS.keep (ka_cons rfl (ka_cons rfl (ka_cons rfl (ka_cons rfl (ka_cons rfl (ka_cons rfl ka_nil)))))) (fun hI => (hI.sub sn)))
      ·refine o_pure hS (.inr ⟨_, _, _, _, rfl, rfl, rfl, hg3⟩) rfl rfl ?_; clear hS; try clear tm
       intro tm hS
       refine o_pure hS (.inr ⟨_, _, _, _, rfl, rfl, rfl, hg3⟩) rfl rfl ?_; clear hS; try clear tm
       intro tm hS
       refine o_pure hS (.inr ⟨_, _, _, _, rfl, rfl, rfl, hg3⟩) rfl rfl ?_; clear hS; try clear tm
       intro tm hS
       refine o_pickF hS (.inr ⟨_, _, _, _, rfl, rfl, rfl, hg2⟩) rfl rfl hg3 rfl ?_; clear hS; try clear tm
       intro tm hS
       have hc3 : c3 = (decide (r1 ≥ a1)) := hc3.trans (by rw [hg3]; first | rfl | simp)
       subst hc3
       exact o_nil (hS.keep (ka_cons rfl (ka_cons rfl (ka_cons rfl (ka_cons rfl (ka_cons rfl (ka_cons rfl ka_nil)))))) (fun hI => (hI.sub sn)))
     intro tm H hS
     subst hc3
     refine o_pickT hS (.inr ⟨_, _, _, _, rfl, rfl, rfl, hg1⟩) rfl rfl hg2 rfl ?_; clear hS; try clear tm
     intro tm hS
     have hc2 : c2 = ((decide (r1 < 0)) || (decide (r1 ≥ a1))) := hc2.trans (by rw [hg2]; first | rfl | simp)
     subst hc2
     exact o_nil (hS.keep (ka_cons rfl (ka_cons rfl (ka_cons rfl (ka_cons rfl (ka_cons rfl ka_nil))))) (fun hI => (hI.sub sn)))
    ·refine o_skip hS rfl rfl rfl hg2 ?_; clear hS; try clear tm
     intro tm hS
     refine o_skip hS rfl rfl rfl hg2 ?_; clear hS; try clear tm
     intro tm hS
     refine o_skip hS rfl rfl rfl hg2 ?_; clear hS; try clear tm
     intro tm hS
     refine o_skipU hS rfl rfl rfl ?_; clear hS; try clear tm
     intro tm hS
     refine o_skipU hS rfl rfl rfl ?_; clear hS; try clear tm
     intro tm hS
     refine o_skipU hS rfl rfl rfl ?_; clear hS; try clear tm
     intro tm hS
     refine o_skip hS rfl rfl rfl hg2 ?_; clear hS; try clear tm
     intro tm hS
     refine o_pickF hS (.inr ⟨_, _, _, _, rfl, rfl, rfl, hg1⟩) rfl rfl hg2 rfl ?_; clear hS; try clear tm
     intro tm hS
     have hc2 : c2 = false := hc2.trans (by rw [hg2]; first | rfl | simp)
     subst hc2
     exact o_nil (hS.keep (ka_cons rfl (ka_cons rfl (ka_cons rfl (ka_cons rfl (ka_cons rfl ka_nil))))) (fun hI => (hI.sub sn)))
   intro tm H hS
   subst hc2
   refine o_pickF hS (.inl rfl) rfl rfl hg1 rfl ?_; clear hS; try clear tm
   intro tm hS
   have hc1 : c1 = ((decide (a1 > 0)) && ((decide (r1 < 0)) || (decide (r1 ≥ a1)))) := hc1.trans (by rw [hg1]; first | rfl | simp)
   subst hc1
   exact o_nil (hS.keep (ka_cons rfl (ka_cons rfl (ka_cons rfl (ka_cons rfl ka_nil)))) (fun hI => (hI.sub sn)))
 intro tm H hS
 subst hc1
 refine o_pure hS (.inl rfl) rfl rfl ?_; clear hS; try clear tm
 intro tm hS
 obtain ⟨c4, hc4⟩ : ∃ x : Bool, x = (((r2 != 0) || ((decide (a1 > 0)) && ((decide (r1 < 0)) || (decide (r1 ≥ a1))))) || ((decide (a1 < 0)) && ((decide (r1 > 0)) || (decide (r1 ≤ a1))))) := ⟨_, rfl⟩
 refine o_cutN 12 (J := fun tm H => S wm 125 tm H [(48, .bool c4), (0, .int .i64 a1), (1, .int .i64 b1), (5, .int .i64 r1)] [] Fr) ?_ ?_
 ·rcases Bool.eq_false_or_eq_true ((r2 != 0) || ((decide (a1 > 0)) && ((decide (r1 < 0)) || (decide (r1 ≥ a1))))) with hg4 | hg4
  ·refine o_skip hS rfl rfl rfl hg4 ?_; clear hS; try clear tm
   intro tm hS
   refine o_skip hS rfl rfl rfl hg4 ?_; clear hS; try clear tm
   intro tm hS
   refine o_skip hS rfl rfl rfl hg4 ?_; clear hS; try clear tm
   intro tm hS
   refine o_skipU hS rfl rfl rfl ?_; clear hS; try clear tm
   intro tm hS
   refine o_skipU hS rfl rfl rfl ?_; clear hS; try clear tm
   intro tm hS
   refine o_skipU hS rfl rfl rfl ?_; clear hS; try clear tm
   intro tm hS
   refine o_skipU hS rfl rfl rfl ?_; clear hS; try clear tm
   intro tm hS
   refine o_skipU hS rfl rfl rfl ?_; clear hS; try clear tm
   intro tm hS
   refine o_skipU hS rfl rfl rfl ?_; clear hS; try clear tm
   intro tm hS
   refine o_skipU hS rfl rfl rfl ?_; clear hS; try clear tm
   intro tm hS
   refine o_skip hS rfl rfl rfl hg4 ?_; clear hS; try clear tm
   intro tm hS
   refine o_pickT hS (.inl rfl) rfl rfl hg4 rfl ?_; clear hS; try clear tm
   intro tm hS
   have hc4 : c4 = true := hc4.trans (by rw [hg4]; first | rfl | simp)
   subst hc4
   exact o_nil (hS.keep (ka_cons rfl (ka_cons rfl (ka_cons rfl (ka_cons rfl ka_nil)))) (fun hI => (hI.sub sn)))
  ·refine o_pure hS (.inr ⟨_, _, _, _, rfl, rfl, rfl, hg4⟩) rfl rfl ?_; clear hS; try clear tm
   intro tm hS
   refine o_pure hS (.inr ⟨_, _, _, _, rfl, rfl, rfl, hg4⟩) rfl rfl ?_; clear hS; try clear tm
   intro tm hS
   refine o_pure hS (.inr ⟨_, _, _, _, rfl, rfl, rfl, hg4⟩) rfl rfl ?_; clear hS; try clear tm
   intro tm hS
   obtain ⟨c5, hc5⟩ : ∃ x : Bool, x = ((decide (a1 < 0)) && ((decide (r1 > 0)) || (decide (r1 ≤ a1)))) := ⟨_, rfl⟩
   refine o_cutN 8 (J := fun tm H => S wm 125 tm H [(47, .bool c5), (0, .int .i64 a1), (1, .int .i64 b1), (5, .int .i64 r1), (36, .bool ((r2 != 0) || ((decide (a1 > 0)) && ((decide (r1 < 0)) || (decide (r1 ≥ a1))))))] [] Fr) ?_ ?_
   ·rcases Bool.eq_false_or_eq_true (decide (a1 < 0)) with hg5 | hg5
    ·refine o_pure hS (.inr ⟨_, _, _, _, rfl, rfl, rfl, hg5⟩) rfl rfl ?_; clear hS; try clear tm
     intro tm hS
     refine o_pure hS (.inr ⟨_, _, _, _, rfl, rfl, rfl, hg5⟩) rfl rfl ?_; clear hS; try clear tm
     intro tm hS
     refine o_pure hS (.inr ⟨_, _, _, _, rfl, rfl, rfl, hg5⟩) rfl rfl ?_; clear hS; try clear tm
     intro tm hS
     obtain ⟨c6, hc6⟩ : ∃ x : Bool, x = ((decide (r1 > 0)) || (decide (r1 ≤ a1))) := ⟨_, rfl⟩
     refine o_cutN 4 (J := fun tm H => S wm 125 tm H [(46, .bool c6), (0, .int .i64 a1), (1, .int .i64 b1), (5, .int .i64 r1), (36, .bool ((r2 != 0) || ((decide (a1 > 0)) && ((decide (r1 < 0)) || (decide (r1 ≥ a1)))))), (39, .bool (decide (a1 < 0)))] [] Fr) ?_ ?_
     ·rcases Bool.eq_false_or_eq_true (decide (r1 > 0)) with hg6 | hg6
      ·refine o_skip hS rfl rfl rfl hg6 ?_; clear hS; try clear tm
       intro tm hS
       refine o_skip hS rfl rfl rfl hg6 ?_; clear hS; try clear tm
       intro tm hS
       refine o_skip hS rfl rfl rfl hg6 ?_; clear hS; try clear tm
       intro tm hS
       refine o_pickT hS (.inr ⟨_, _, _, _, rfl, rfl, rfl, hg5⟩) rfl rfl hg6 rfl ?_; clear hS; try clear tm
       intro tm hS
       have hc6 : c6 = true := hc6.trans (by rw [hg6]; first | rfl | simp)
       subst hc6
       exact o_nil (hS.keep (ka_cons rfl (ka_cons rfl (ka_cons rfl (ka_cons rfl (ka_cons rfl (ka_cons rfl ka_nil)))))) (fun hI => (hI.sub sn)))
      ·refine o_pure hS (.inr ⟨_, _, _, _, rfl, rfl, rfl, hg6⟩) rfl rfl ?_; clear hS; try clear tm
       intro tm hS
       refine o_pure hS (.inr ⟨_, _, _, _, rfl, rfl, rfl, hg6⟩) rfl rfl ?_; clear hS; try clear tm
       intro tm hS
       refine o_pure hS (.inr ⟨_, _, _, _, rfl, rfl, rfl, hg6⟩) rfl rfl ?_; clear hS; try clear tm
       intro tm hS
       refine o_pickF hS (.inr ⟨_, _, _, _, rfl, rfl, rfl, hg5⟩) rfl rfl hg6 rfl ?_; clear hS; try clear tm
       intro tm hS
       have hc6 : c6 = (decide (r1 ≤ a1)) := hc6.trans (by rw [hg6]; first | rfl | simp)
       subst hc6
       exact o_nil (hS.keep (ka_cons rfl (ka_cons rfl (ka_cons rfl (ka_cons rfl (ka_cons rfl (ka_cons rfl ka_nil)))))) (fun hI => (hI.sub sn)))
     intro tm H hS
     subst hc6
     refine o_pickT hS (.inr ⟨_, _, _, _, rfl, rfl, rfl, hg4⟩) rfl rfl hg5 rfl ?_; clear hS; try clear tm
     intro tm hS
     have hc5 : c5 = ((decide (r1 > 0)) || (decide (r1 ≤ a1))) := hc5.trans (by rw [hg5]; first | rfl | simp)
     subst hc5
     exact o_nil (hS.keep (ka_cons rfl (ka_cons rfl (ka_cons rfl (ka_cons rfl (ka_cons rfl ka_nil))))) (fun hI => (hI.sub sn)))
    ·refine o_skip hS rfl rfl rfl hg5 ?_; clear hS; try clear tm
     intro tm hS
     refine o_skip hS rfl rfl rfl hg5 ?_; clear hS; try clear tm
     intro tm hS
     refine o_skip hS rfl rfl rfl hg5 ?_; clear hS; try clear tm
     intro tm hS
     refine o_skipU hS rfl rfl rfl ?_; clear hS; try clear tm
     intro tm hS
     refine o_skipU hS rfl rfl rfl ?_; clear hS; try clear tm
     intro tm hS
     refine o_skipU hS rfl rfl rfl ?_; clear hS; try clear tm
     intro tm hS
     refine o_skip hS rfl rfl rfl hg5 ?_; clear hS; try clear tm
     intro tm hS
     refine o_pickF hS (.inr ⟨_, _, _, _, rfl, rfl, rfl, hg4⟩) rfl rfl hg5 rfl ?_; clear hS; try clear tm
     intro tm hS
     have hc5 : c5 = false := hc5.trans (by rw [hg5]; first | rfl | simp)
     subst hc5
     exact o_nil (hS.keep (ka_cons rfl (ka_cons rfl (ka_cons rfl (ka_cons rfl (ka_cons rfl ka_nil))))) (fun hI => (hI.sub sn)))
   intro tm H hS
   subst hc5
   refine o_pickF hS (.inl rfl) rfl rfl hg4 rfl ?_; clear hS; try clear tm
   intro tm hS
   have hc4 : c4 = ((decide (a1 < 0)) && ((decide (r1 > 0)) || (decide (r1 ≤ a1)))) := hc4.trans (by rw [hg4]; first | rfl | simp)
   subst hc4
   exact o_nil (hS.keep (ka_cons rfl (ka_cons rfl (ka_cons rfl (ka_cons rfl ka_nil)))) (fun hI => (hI.sub sn)))
 intro tm H hS
 subst hc4
 refine o_pure hS (.inl rfl) rfl rfl ?_; clear hS; try clear tm
 intro tm hS
 obtain ⟨c7, hc7⟩ : ∃ x : Bool, x = ((((r2 != 0) || ((decide (a1 > 0)) && ((decide (r1 < 0)) || (decide (r1 ≥ a1))))) || ((decide (a1 < 0)) && ((decide (r1 > 0)) || (decide (r1 ≤ a1))))) || ((a1 == 0) && (r1 != b1))) := ⟨_, rfl⟩
 refine o_cutN 8 (J := fun tm H => S wm 125 tm H [(57, .bool c7), (0, .int .i64 a1), (1, .int .i64 b1), (5, .int .i64 r1)] [] Fr) ?_ ?_
 ·rcases Bool.eq_false_or_eq_true (((r2 != 0) || ((decide (a1 > 0)) && ((decide (r1 < 0)) || (decide (r1 ≥ a1))))) || ((decide (a1 < 0)) && ((decide (r1 > 0)) || (decide (r1 ≤ a1))))) with hg7 | hg7
  ·refine o_skip hS rfl rfl rfl hg7 ?_; clear hS; try clear tm
   intro tm hS
   refine o_skip hS rfl rfl rfl hg7 ?_; clear hS; try clear tm
   intro tm hS
   refine o_skip hS rfl rfl rfl hg7 ?_; clear hS; try clear tm
   intro tm hS
   refine o_skipU hS rfl rfl rfl ?_; clear hS; try clear tm
   intro tm hS
   refine o_skipU hS rfl rfl rfl ?_; clear hS; try clear tm
   intro tm hS
   refine o_skipU hS rfl rfl rfl ?_; clear hS; try clear tm
   intro tm hS
   refine o_skip hS rfl rfl rfl hg7 ?_; clear hS; try clear tm
   intro tm hS
   refine o_pickT hS (.inl rfl) rfl rfl hg7 rfl ?_; clear hS; try clear tm
   intro tm hS
   have hc7 : c7 = true := hc7.trans (by rw [hg7]; first | rfl | simp)
   subst hc7
   exact o_nil (hS.keep (ka_cons rfl (ka_cons rfl (ka_cons rfl (ka_cons rfl ka_nil)))) (fun hI => (hI.sub sn)))
  ·refine o_pure hS (.inr ⟨_, _, _, _, rfl, rfl, rfl, hg7⟩) rfl rfl ?_; clear hS; try clear tm
   intro tm hS
   refine o_pure hS (.inr ⟨_, _, _, _, rfl, rfl, rfl, hg7⟩) rfl rfl ?_; clear hS; try clear tm
   intro tm hS
   refine o_pure hS (.inr ⟨_, _, _, _, rfl, rfl, rfl, hg7⟩) rfl rfl ?_; clear hS; try clear tm
   intro tm hS
   obtain ⟨c8, hc8⟩ : ∃ x : Bool, x = ((a1 == 0) && (r1 != b1)) := ⟨_, rfl⟩
   refine o_cutN 4 (J := fun tm H => S wm 125 tm H [(56, .bool c8), (0, .int .i64 a1), (1, .int .i64 b1), (5, .int .i64 r1), (49, .bool (((r2 != 0) || ((decide (a1 > 0)) && ((decide (r1 < 0)) || (decide (r1 ≥ a1))))) || ((decide (a1 < 0)) && ((decide (r1 > 0)) || (decide (r1 ≤ a1))))))] [] Fr) ?_ ?_
   ·rcases Bool.eq_false_or_eq_true (a1 == 0) with hg8 | hg8
    ·refine o_pure hS (.inr ⟨_, _, _, _, rfl, rfl, rfl, hg8⟩) rfl rfl ?_; clear hS; try clear tm
     intro tm hS
     refine o_pure hS (.inr ⟨_, _, _, _, rfl, rfl, rfl, hg8⟩) rfl rfl ?_; clear hS; try clear tm
     intro tm hS
     refine o_pure hS (.inr ⟨_, _, _, _, rfl, rfl, rfl, hg8⟩) rfl rfl ?_; clear hS; try clear tm
     intro tm hS
     refine o_pickT hS (.inr ⟨_, _, _, _, rfl, rfl, rfl, hg7⟩) rfl rfl hg8 rfl ?_; clear hS; try clear tm
     intro tm hS
     have hc8 : c8 = (r1 != b1) := hc8.trans (by rw [hg8]; first | rfl | simp)
     subst hc8
     exact o_nil (hS.keep (ka_cons rfl (ka_cons rfl (ka_cons rfl (ka_cons rfl (ka_cons rfl ka_nil))))) (fun hI => (hI.sub sn)))
    ·refine o_skip hS rfl rfl rfl hg8 ?_; clear hS; try clear tm
     intro tm hS
     refine o_skip hS rfl rfl rfl hg8 ?_; clear hS; try clear tm
     intro tm hS
     refine o_skip hS rfl rfl rfl hg8 ?_; clear hS; try clear tm
     intro tm hS
     refine o_pickF hS (.inr ⟨_, _, _, _, rfl, rfl, rfl, hg7⟩) rfl rfl hg8 rfl ?_; clear hS; try clear tm
     intro tm hS
     have hc8 : c8 = false := hc8.trans (by rw [hg8]; first | rfl | simp)
     subst hc8
     exact o_nil (hS.keep (ka_cons rfl (ka_cons rfl (ka_cons rfl (ka_cons rfl (ka_cons rfl ka_nil))))) (fun hI => (hI.sub sn)))
   intro tm H hS
   subst hc8
   refine o_pickF hS (.inl rfl) rfl rfl hg7 rfl ?_; clear hS; try clear tm
   intro tm hS
   have hc7 : c7 = ((a1 == 0) && (r1 != b1)) := hc7.trans (by rw [hg7]; first | rfl | simp)
   subst hc7
   exact o_nil (hS.keep (ka_cons rfl (ka_cons rfl (ka_cons rfl (ka_cons rfl ka_nil)))) (fun hI => (hI.sub sn)))
 intro tm H hS
 subst hc7
 refine o_pure hS (.inl rfl) rfl rfl ?_; clear hS; try clear tm
 intro tm hS
 obtain ⟨c9, hc9, h0⟩ := bindS h0
 refine o_cutN 21 (J := fun tm H => S wm 125 tm H [(79, .bool c9), (0, .int .i64 a1), (1, .int .i64 b1)] [] Fr) ?_ ?_
 ·rcases Bool.eq_false_or_eq_true ((((r2 != 0) || ((decide (a1 > 0)) && ((decide (r1 < 0)) || (decide (r1 ≥ a1))))) || ((decide (a1 < 0)) && ((decide (r1 > 0)) || (decide (r1 ≤ a1))))) || ((a1 == 0) && (r1 != b1))) with hg9 | hg9
  ·replace hc9 := iteT hg9 hc9
   refine o_skip hS rfl rfl rfl hg9 ?_; clear hS; try clear tm
   intro tm hS
   refine o_skip hS rfl rfl rfl hg9 ?_; clear hS; try clear tm
   intro tm hS
   refine o_skip hS rfl rfl rfl hg9 ?_; clear hS; try clear tm
   intro tm hS
   refine o_skipU hS rfl rfl rfl ?_; clear hS; try clear tm
   intro tm hS
   refine o_skipU hS rfl rfl rfl ?_; clear hS; try clear tm
   intro tm hS
   refine o_skipU hS rfl rfl rfl ?_; clear hS; try clear tm
   intro tm hS
   refine o_skipU hS rfl rfl rfl ?_; clear hS; try clear tm
   intro tm hS
   refine o_skipU hS rfl rfl rfl ?_; clear hS; try clear tm
   intro tm hS
   refine o_skipU hS rfl rfl rfl ?_; clear hS; try clear tm
   intro tm hS
   refine o_skipU hS rfl rfl rfl ?_; clear hS; try clear tm
   intro tm hS
   refine o_skip hS rfl rfl rfl hg9 ?_; clear hS; try clear tm
   intro tm hS
   refine o_skip hS rfl rfl rfl hg9 ?_; clear hS; try clear tm
   intro tm hS
   refine o_skipU hS rfl rfl rfl ?_; clear hS; try clear tm
   intro tm hS
   refine o_skipU hS rfl rfl rfl ?_; clear hS; try clear tm
   intro tm hS
   refine o_skipU hS rfl rfl rfl ?_; clear hS; try clear tm
   intro tm hS
   refine o_skipU hS rfl rfl rfl ?_; clear hS; try clear tm
   intro tm hS
   refine o_skipU hS rfl rfl rfl ?_; clear hS; try clear tm
   intro tm hS
   refine o_skipU hS rfl rfl rfl ?_; clear hS; try clear tm
   intro tm hS
   refine o_skipU hS rfl rfl rfl ?_; clear hS; try clear tm
   intro tm hS
   refine o_skip hS rfl rfl rfl hg9 ?_; clear hS; try clear tm
   intro tm hS
   refine o_pickT hS (.inl rfl) rfl rfl hg9 rfl ?_; clear hS; try clear tm
   intro tm hS
   obtain rfl := Option.some.inj hc9
   exact o_nil (hS.keep (ka_cons rfl (ka_cons rfl (ka_cons rfl ka_nil))) (fun hI => (hI.sub sn)))
  ·replace hc9 := iteF hg9 hc9
   refine o_pure hS (.inr ⟨_, _, _, _, rfl, rfl, rfl, hg9⟩) rfl rfl ?_; clear hS; try clear tm
   intro tm hS
   refine o_pure hS (.inr ⟨_, _, _, _, rfl, rfl, rfl, hg9⟩) rfl rfl ?_; clear hS; try clear tm
   intro tm hS
   refine o_pure hS (.inr ⟨_, _, _, _, rfl, rfl, rfl, hg9⟩) rfl rfl ?_; clear hS; try clear tm
   intro tm hS
   obtain ⟨c10, hc10, hc9⟩ := bindS hc9
   refine o_cutN 8 (J := fun tm H => S wm 125 tm H [(69, .bool c10), (0, .int .i64 a1), (1, .int .i64 b1), (5, .int .i64 r1), (58, .bool ((((r2 != 0) || ((decide (a1 > 0)) && ((decide (r1 < 0)) || (decide (r1 ≥ a1))))) || ((decide (a1 < 0)) && ((decide (r1 > 0)) || (decide (r1 ≤ a1))))) || ((a1 == 0) && (r1 != b1))))] [] Fr) ?_ ?_
   ·rcases Bool.eq_false_or_eq_true (a1 != 0) with hg10 | hg10
    ·replace hc10 := iteT hg10 hc10
     refine o_pure hS (.inr ⟨_, _, _, _, rfl, rfl, rfl, hg10⟩) rfl rfl ?_; clear hS; try clear tm
     intro tm hS
     refine o_pure hS (.inr ⟨_, _, _, _, rfl, rfl, rfl, hg10⟩) rfl rfl ?_; clear hS; try clear tm
     intro tm hS
     obtain ⟨q1, hx2, hc10⟩ := bindS hc10
     refine o_rem hS (.inr ⟨_, _, _, _, rfl, rfl, rfl, hg10⟩) rfl rfl rfl hx2 ?_; clear hS; try clear tm
     intro tm hS
     refine o_pure hS (.inr ⟨_, _, _, _, rfl, rfl, rfl, hg10⟩) rfl rfl ?_; clear hS; try clear tm
     intro tm hS
     refine o_pure hS (.inr ⟨_, _, _, _, rfl, rfl, rfl, hg10⟩) rfl rfl ?_; clear hS; try clear tm
     intro tm hS
     obtain ⟨q2, hx3, hc10⟩ := bindS hc10
     refine o_rem hS (.inr ⟨_, _, _, _, rfl, rfl, rfl, hg10⟩) rfl rfl rfl hx3 ?_; clear hS; try clear tm
     intro tm hS
     refine o_pure hS (.inr ⟨_, _, _, _, rfl, rfl, rfl, hg10⟩) rfl rfl ?_; clear hS; try clear tm
     intro tm hS
     refine o_pickT hS (.inr ⟨_, _, _, _, rfl, rfl, rfl, hg9⟩) rfl rfl hg10 rfl ?_; clear hS; try clear tm
     intro tm hS
     obtain rfl := Option.some.inj hc10
     exact o_nil (hS.keep (ka_cons rfl (ka_cons rfl (ka_cons rfl (ka_cons rfl (ka_cons rfl ka_nil))))) (fun hI => (hI.sub sn)))
    ·replace hc10 := iteF hg10 hc10
     refine o_skip hS rfl rfl rfl hg10 ?_; clear hS; try clear tm
     intro tm hS
     refine o_skip hS rfl rfl rfl hg10 ?_; clear hS; try clear tm
     intro tm hS
     refine o_skip hS rfl rfl rfl hg10 ?_; clear hS; try clear tm
     intro tm hS
     refine o_skip hS rfl rfl rfl hg10 ?_; clear hS; try clear tm
     intro tm hS
     refine o_skip hS rfl rfl rfl hg10 ?_; clear hS; try clear tm
     intro tm hS
     refine o_skip hS rfl rfl rfl hg10 ?_; clear hS; try clear tm
     intro tm hS
     refine o_skip hS rfl rfl rfl hg10 ?_; clear hS; try clear tm
     intro tm hS
     refine o_pickF hS (.inr ⟨_, _, _, _, rfl, rfl, rfl, hg9⟩) rfl rfl hg10 rfl ?_; clear hS; try clear tm
     intro tm hS
     obtain rfl := Option.some.inj hc10
     exact o_nil (hS.keep (ka_cons rfl (ka_cons rfl (ka_cons rfl (ka_cons rfl (ka_cons rfl ka_nil))))) (fun hI => (hI.sub sn)))
   intro tm H hS
   refine o_pure hS (.inr ⟨_, _, _, _, rfl, rfl, rfl, hg9⟩) rfl rfl ?_; clear hS; try clear tm
   intro tm hS
   obtain ⟨c11, hc11, hc9⟩ := bindS hc9
   refine o_cutN 8 (J := fun tm H => S wm 125 tm H [(78, .bool c11), (0, .int .i64 a1), (1, .int .i64 b1), (58, .bool ((((r2 != 0) || ((decide (a1 > 0)) && ((decide (r1 < 0)) || (decide (r1 ≥ a1))))) || ((decide (a1 < 0)) && ((decide (r1 > 0)) || (decide (r1 ≤ a1))))) || ((a1 == 0) && (r1 != b1))))] [] Fr) ?_ ?_
   ·rcases Bool.eq_false_or_eq_true c10 with hg11 | hg11
    ·replace hc11 := iteT hg11 hc11
     refine o_pure hS (.inr ⟨_, _, _, _, rfl, rfl, rfl, hg11⟩) rfl rfl ?_; clear hS; try clear tm
     intro tm hS
     refine o_pure hS (.inr ⟨_, _, _, _, rfl, rfl, rfl, hg11⟩) rfl rfl ?_; clear hS; try clear tm
     intro tm hS
     obtain ⟨q3, hx4, hc11⟩ := bindS hc11
     refine o_rem hS (.inr ⟨_, _, _, _, rfl, rfl, rfl, hg11⟩) rfl rfl rfl hx4 ?_; clear hS; try clear tm
     intro tm hS
     refine o_pure hS (.inr ⟨_, _, _, _, rfl, rfl, rfl, hg11⟩) rfl rfl ?_; clear hS; try clear tm
     intro tm hS
     refine o_pure hS (.inr ⟨_, _, _, _, rfl, rfl, rfl, hg11⟩) rfl rfl ?_; clear hS; try clear tm
     intro tm hS
     refine o_pure hS (.inr ⟨_, _, _, _, rfl, rfl, rfl, hg11⟩) rfl rfl ?_; clear hS; try clear tm
     intro tm hS
     refine o_pure hS (.inr ⟨_, _, _, _, rfl, rfl, rfl, hg11⟩) rfl rfl ?_; clear hS; try clear tm
     intro tm hS
     refine o_pickT hS (.inr ⟨_, _, _, _, rfl, rfl, rfl, hg9⟩) rfl rfl hg11 rfl ?_; clear hS; try clear tm
     intro tm hS
     obtain rfl := Option.some.inj hc11
     exact o_nil (hS.keep (ka_cons rfl (ka_cons rfl (ka_cons rfl (ka_cons rfl ka_nil)))) (fun hI => (hI.sub sn)))
    ·replace hc11 := iteF hg11 hc11
     refine o_skip hS rfl rfl rfl hg11 ?_; clear hS; try clear tm
     intro tm hS
     refine o_skip hS rfl rfl rfl hg11 ?_; clear hS; try clear tm
     intro tm hS
     refine o_skip hS rfl rfl rfl hg11 ?_; clear hS; try clear tm
     intro tm hS
     refine o_skip hS rfl rfl rfl hg11 ?_; clear hS; try clear tm
     intro tm hS
     refine o_skip hS rfl rfl rfl hg11 ?_; clear hS; try clear tm
     intro tm hS
     refine o_skip hS rfl rfl rfl hg11 ?_; clear hS; try clear tm
     intro tm hS
     refine o_skip hS rfl rfl rfl hg11 ?_; clear hS; try clear tm
     intro tm hS
     refine o_pickF hS (.inr ⟨_, _, _, _, rfl, rfl, rfl, hg9⟩) rfl rfl hg11 rfl ?_; clear hS; try clear tm
     intro tm hS
     obtain rfl := Option.some.inj hc11
     exact o_nil (hS.keep (ka_cons rfl (ka_cons rfl (ka_cons rfl (ka_cons rfl ka_nil)))) (fun hI => (hI.sub sn)))
   intro tm H hS
   refine o_pickF hS (.inl rfl) rfl rfl hg9 rfl ?_; clear hS; try clear tm
   intro tm hS
   obtain rfl := Option.some.inj hc9
   exact o_nil (hS.keep (ka_cons rfl (ka_cons rfl (ka_cons rfl ka_nil))) (fun hI => (hI.sub sn)))
 intro tm H hS
 refine o_nil (hR _ _ ?_)
 clear hR R
 refine c_cond hS rfl (fun hc => ?_) (fun hc => ?_)
 ·replace h0 := iteT hc h0
  refine c_reg fun R hR => ?_
  refine o_pure hS (.inl rfl) rfl rfl ?_; clear hS; try clear tm
  intro tm hS
  refine o_nil (hR _ _ ?_)
  clear hR R
  refine wpC.ret ?_
  obtain rfl := Option.some.inj h0
  refine Exists.intro _ (And.intro (rs_tmp hS rfl rs_nil) ?_)
  have hI := hS.inv
  exact ⟨rfl, (hI.sub sn)⟩
 ·replace h0 := iteF hc h0
  refine wpC.skip ?_
  refine c_reg fun R hR => ?_
  refine o_pure hS (.inl rfl) rfl rfl ?_; clear hS; try clear tm
  intro tm hS
  refine o_pure hS (.inl rfl) rfl rfl ?_; clear hS; try clear tm
  intro tm hS
  refine o_pure hS (.inl rfl) rfl rfl ?_; clear hS; try clear tm
  intro tm hS
  refine o_nil (hR _ _ ?_)
  clear hR R
  refine c_reg fun R hR => ?_
  refine o_pure hS (.inl rfl) rfl rfl ?_; clear hS; try clear tm
  intro tm hS
  refine o_pure hS (.inl rfl) rfl rfl ?_; clear hS; try clear tm
  intro tm hS
  refine o_pure hS (.inl rfl) rfl rfl ?_; clear hS; try clear tm
  intro tm hS
  refine o_nil (hR _ _ ?_)
  clear hR R
  refine c_reg fun R hR => ?_
  refine o_pure hS (.inl rfl) rfl rfl ?_; clear hS; try clear tm
  intro tm hS
  refine o_pure hS (.inl rfl) rfl rfl ?_; clear hS; try clear tm
  intro tm hS
  refine o_pure hS (.inl rfl) rfl rfl ?_; clear hS; try clear tm
  intro tm hS
  refine o_pure hS (.inl rfl) rfl rfl ?_; clear hS; try clear tm
  intro tm hS
  obtain ⟨⟨r3, r4⟩, hx5, h0⟩ := bindS h0
  refine o_call hS (.inl rfl) rfl (fun wm' hw1 hw2 => wk31 ho48 str_33 (IntKind.i64.wrap ((IntKind.i64.wrap (BitVec.ofInt IntKind.i64.bits a1 &&& BitVec.ofInt IntKind.i64.bits 63).toNat) + 1)) (IntKind.i64.wrap ((IntKind.i64.wrap (BitVec.ofInt IntKind.i64.bits b1 &&& BitVec.ofInt IntKind.i64.bits 63).toNat) + 1))   (hS.sel hw2) hx5) (fun wm' res H hw' hp => ?_)
  obtain ⟨hres, hI⟩ := hp
  replace hres := hres.symm; subst hres
  replace hS : S wm 125 _ H ((89, .tuple #[.int .i64 r3, .int .i64 r4]) :: _) ([] ++ _) Fr := hS.after rfl hw' hI
  clear hI hw'
  refine o_pure hS (.inl rfl) rfl rfl ?_; clear hS; try clear tm
  intro tm hS
  refine o_pure hS (.inl rfl) rfl rfl ?_; clear hS; try clear tm
  intro tm hS
  refine o_pure hS (.inl rfl) rfl rfl ?_; clear hS; try clear tm
  intro tm hS
  refine o_pure hS (.inl rfl) rfl rfl ?_; clear hS; try clear tm
  intro tm hS
  refine o_pure hS (.inl rfl) rfl rfl ?_; clear hS; try clear tm
  intro tm hS
  refine o_nil (hR _ _ ?_)
  clear hR R
  refine c_reg fun R hR => ?_
  refine o_pure hS (.inl rfl) rfl rfl ?_; clear hS; try clear tm
  intro tm hS
  refine o_pure hS (.inl rfl) rfl rfl ?_; clear hS; try clear tm
  intro tm hS
  obtain ⟨⟨r5, r6⟩, hx6, h0⟩ := bindS h0
  refine o_call hS (.inl rfl) rfl (fun wm' hw1 hw2 => wk31 ho48 str_33 (IntKind.i64.wrap (BitVec.ofInt IntKind.i64.bits a1 &&& BitVec.ofInt IntKind.i64.bits 63).toNat) (IntKind.i64.wrap (BitVec.ofInt IntKind.i64.bits b1 &&& BitVec.ofInt IntKind.i64.bits 63).toNat)   (hS.sel hw2) hx6) (fun wm' res H hw' hp => ?_)
  obtain ⟨hres, hI⟩ := hp
  replace hres := hres.symm; subst hres
  replace hS : S wm 125 _ H ((95, .tuple #[.int .i64 r5, .int .i64 r6]) :: _) ([] ++ _) Fr := hS.after rfl hw' hI
  clear hI hw'
  refine o_pure hS (.inl rfl) rfl rfl ?_; clear hS; try clear tm
  intro tm hS
  refine o_pure hS (.inl rfl) rfl rfl ?_; clear hS; try clear tm
  intro tm hS
  refine o_pure hS (.inl rfl) rfl rfl ?_; clear hS; try clear tm
  intro tm hS
  refine o_pure hS (.inl rfl) rfl rfl ?_; clear hS; try clear tm
  intro tm hS
  refine o_pure hS (.inl rfl) rfl rfl ?_; clear hS; try clear tm
  intro tm hS
  refine o_nil (hR _ _ ?_)
  clear hR R
  refine c_reg fun R hR => ?_
  refine o_pure hS (.inl rfl) rfl rfl ?_; clear hS; try clear tm
  intro tm hS
  refine o_pure hS (.inl rfl) rfl rfl ?_; clear hS; try clear tm
  intro tm hS
  refine o_pure hS (.inl rfl) rfl rfl ?_; clear hS; try clear tm
  intro tm hS
  obtain ⟨⟨r7, r8⟩, hx7, h0⟩ := bindS h0
  refine o_call hS (.inl rfl) rfl (fun wm' hw1 hw2 => wk31 ho48 str_33 (IntKind.i64.wrap ((IntKind.i64.wrap (BitVec.ofInt IntKind.i64.bits a1 &&& BitVec.ofInt IntKind.i64.bits 63).toNat) + 1)) (IntKind.i64.wrap (BitVec.ofInt IntKind.i64.bits b1 &&& BitVec.ofInt IntKind.i64.bits 63).toNat)   (hS.sel hw2) hx7) (fun wm' res H hw' hp => ?_)
  obtain ⟨hres, hI⟩ := hp
  replace hres := hres.symm; subst hres
  replace hS : S wm 125 _ H ((102, .tuple #[.int .i64 r7, .int .i64 r8]) :: _) ([] ++ _) Fr := hS.after rfl hw' hI
  clear hI hw'
  refine o_pure hS (.inl rfl) rfl rfl ?_; clear hS; try clear tm
  intro tm hS
  refine o_pure hS (.inl rfl) rfl rfl ?_; clear hS; try clear tm
  intro tm hS
  refine o_pure hS (.inl rfl) rfl rfl ?_; clear hS; try clear tm
  intro tm hS
  refine o_pure hS (.inl rfl) rfl rfl ?_; clear hS; try clear tm
  intro tm hS
  refine o_pure hS (.inl rfl) rfl rfl ?_; clear hS; try clear tm
  intro tm hS
  refine o_nil (hR _ _ ?_)
  clear hR R
  refine c_reg fun R hR => ?_
  refine o_pure hS (.inl rfl) rfl rfl ?_; clear hS; try clear tm
  intro tm hS
  refine o_pure hS (.inl rfl) rfl rfl ?_; clear hS; try clear tm
  intro tm hS
  refine o_pure hS (.inl rfl) rfl rfl ?_; clear hS; try clear tm
  intro tm hS
  obtain ⟨c12, hc12⟩ : ∃ x : Bool, x = ((r4 != 0) || (((r6 == 0) && (r8 == 0)) && (r3 == (IntKind.i64.wrap (r5 + r7))))) := ⟨_, rfl⟩
  refine o_cutN 14 (J := fun tm H => S wm 125 tm H [(121, .bool c12)] [] Fr) ?_ ?_
  ·rcases Bool.eq_false_or_eq_true (r4 != 0) with hg12 | hg12
   ·refine o_skip hS rfl rfl rfl hg12 ?_; clear hS; try clear tm
    intro tm hS
    refine o_skip hS rfl rfl rfl hg12 ?_; clear hS; try clear tm
    intro tm hS
    refine o_skip hS rfl rfl rfl hg12 ?_; clear hS; try clear tm
    intro tm hS
    refine o_skipU hS rfl rfl rfl ?_; clear hS; try clear tm
    intro tm hS
    refine o_skipU hS rfl rfl rfl ?_; clear hS; try clear tm
    intro tm hS
    refine o_skip hS rfl rfl rfl hg12 ?_; clear hS; try clear tm
    intro tm hS
    refine o_skip hS rfl rfl rfl hg12 ?_; clear hS; try clear tm
    intro tm hS
    refine o_skipU hS rfl rfl rfl ?_; clear hS; try clear tm
    intro tm hS
    refine o_skipU hS rfl rfl rfl ?_; clear hS; try clear tm
    intro tm hS
    refine o_skipU hS rfl rfl rfl ?_; clear hS; try clear tm
    intro tm hS
    refine o_skipU hS rfl rfl rfl ?_; clear hS; try clear tm
    intro tm hS
    refine o_skipU hS rfl rfl rfl ?_; clear hS; try clear tm
    intro tm hS
    refine o_skip hS rfl rfl rfl hg12 ?_; clear hS; try clear tm
    intro tm hS
    refine o_pickT hS (.inl rfl) rfl rfl hg12 rfl ?_; clear hS; try clear tm
    intro tm hS
    have hc12 : c12 = true := hc12.trans (by rw [hg12]; first | rfl | simp)
    subst hc12
    exact o_nil (hS.keep (ka_cons rfl ka_nil) (fun hI => (hI.sub sn)))
   ·refine o_pure hS (.inr ⟨_, _, _, _, rfl, rfl, rfl, hg12⟩) rfl rfl ?_; clear hS; try clear tm
    intro tm hS
    refine o_pure hS (.inr ⟨_, _, _, _, rfl, rfl, rfl, hg12⟩) rfl rfl ?_; clear hS; try clear tm
    intro tm hS
    refine o_pure hS (.inr ⟨_, _, _, _, rfl, rfl, rfl, hg12⟩) rfl rfl ?_; clear hS; try clear tm
    intro tm hS
    obtain ⟨c13, hc13⟩ : ∃ x : Bool, x = ((r6 == 0) && (r8 == 0)) := ⟨_, rfl⟩
    refine o_cutN 3 (J := fun tm H => S wm 125 tm H [(113, .bool c13), (9, .int .i64 r3), (11, .int .i64 r5), (13, .int .i64 r7), (107, .bool (r4 != 0))] [] Fr) ?_ ?_
    ·rcases Bool.eq_false_or_eq_true (r6 == 0) with hg13 | hg13
     ·refine o_pure hS (.inr ⟨_, _, _, _, rfl, rfl, rfl, hg13⟩) rfl rfl ?_; clear hS; try clear tm
      intro tm hS
      refine o_pure hS (.inr ⟨_, _, _, _, rfl, rfl, rfl, hg13⟩) rfl rfl ?_; clear hS; try clear tm
      intro tm hS
      refine o_pickT hS (.inr ⟨_, _, _, _, rfl, rfl, rfl, hg12⟩) rfl rfl hg13 rfl ?_; clear hS; try clear tm
      intro tm hS
      have hc13 : c13 = (r8 == 0) := hc13.trans (by rw [hg13]; first | rfl | simp)
      subst hc13
      exact o_nil (hS.keep (ka_cons rfl (ka_cons rfl (ka_cons rfl (ka_cons rfl (ka_cons rfl ka_nil))))) (fun hI => (hI.sub sn)))
     ·refine o_skip hS rfl rfl rfl hg13 ?_; clear hS; try clear tm
      intro tm hS
      refine o_skip hS rfl rfl rfl hg13 ?_; clear hS; try clear tm
      intro tm hS
      refine o_pickF hS (.inr ⟨_, _, _, _, rfl, rfl, rfl, hg12⟩) rfl rfl hg13 rfl ?_; clear hS; try clear tm
      intro tm hS
      have hc13 : c13 = false := hc13.trans (by rw [hg13]; first | rfl | simp)
      subst hc13
      exact o_nil (hS.keep (ka_cons rfl (ka_cons rfl (ka_cons rfl (ka_cons rfl (ka_cons rfl ka_nil))))) (fun hI => (hI.sub sn)))
    intro tm H hS
    subst hc13
    refine o_pure hS (.inr ⟨_, _, _, _, rfl, rfl, rfl, hg12⟩) rfl rfl ?_; clear hS; try clear tm
    intro tm hS
    obtain ⟨c14, hc14⟩ : ∃ x : Bool, x = (((r6 == 0) && (r8 == 0)) && (r3 == (IntKind.i64.wrap (r5 + r7)))) := ⟨_, rfl⟩
    refine o_cutN 6 (J := fun tm H => S wm 125 tm H [(120, .bool c14), (107, .bool (r4 != 0))] [] Fr) ?_ ?_
    ·rcases Bool.eq_false_or_eq_true ((r6 == 0) && (r8 == 0)) with hg14 | hg14
     ·refine o_pure hS (.inr ⟨_, _, _, _, rfl, rfl, rfl, hg14⟩) rfl rfl ?_; clear hS; try clear tm
      intro tm hS
      refine o_pure hS (.inr ⟨_, _, _, _, rfl, rfl, rfl, hg14⟩) rfl rfl ?_; clear hS; try clear tm
      intro tm hS
      refine o_pure hS (.inr ⟨_, _, _, _, rfl, rfl, rfl, hg14⟩) rfl rfl ?_; clear hS; try clear tm
      intro tm hS
      refine o_pure hS (.inr ⟨_, _, _, _, rfl, rfl, rfl, hg14⟩) rfl rfl ?_; clear hS; try clear tm
      intro tm hS
      refine o_pure hS (.inr ⟨_, _, _, _, rfl, rfl, rfl, hg14⟩) rfl rfl ?_; clear hS; try clear tm
      intro tm hS
      refine o_pickT hS (.inr ⟨_, _, _, _, rfl, rfl, rfl, hg12⟩) rfl rfl hg14 rfl ?_; clear hS; try clear tm
      intro tm hS
      have hc14 : c14 = (r3 == (IntKind.i64.wrap (r5 + r7))) := hc14.trans (by rw [hg14]; first | rfl | simp)
      subst hc14
      exact o_nil (hS.keep (ka_cons rfl (ka_cons rfl ka_nil)) (fun hI => (hI.sub sn)))
     ·refine o_skip hS rfl rfl rfl hg14 ?_; clear hS; try clear tm
      intro tm hS
      refine o_skip hS rfl rfl rfl hg14 ?_; clear hS; try clear tm
      intro tm hS
      refine o_skip hS rfl rfl rfl hg14 ?_; clear hS; try clear tm
      intro tm hS
      refine o_skip hS rfl rfl rfl hg14 ?_; clear hS; try clear tm
      intro tm hS
      refine o_skip hS rfl rfl rfl hg14 ?_; clear hS; try clear tm
      intro tm hS
      refine o_pickF hS (.inr ⟨_, _, _, _, rfl, rfl, rfl, hg12⟩) rfl rfl hg14 rfl ?_; clear hS; try clear tm
      intro tm hS
      have hc14 : c14 = false := hc14.trans (by rw [hg14]; first | rfl | simp)
      subst hc14
      exact o_nil (hS.keep (ka_cons rfl (ka_cons rfl ka_nil)) (fun hI => (hI.sub sn)))
    intro tm H hS
    subst hc14
    refine o_pickF hS (.inl rfl) rfl rfl hg12 rfl ?_; clear hS; try clear tm
    intro tm hS
    have hc12 : c12 = (((r6 == 0) && (r8 == 0)) && (r3 == (IntKind.i64.wrap (r5 + r7)))) := hc12.trans (by rw [hg12]; first | rfl | simp)
    subst hc12
    exact o_nil (hS.keep (ka_cons rfl ka_nil) (fun hI => (hI.sub sn)))
  intro tm H hS
  subst hc12
  refine o_pure hS (.inl rfl) rfl rfl ?_; clear hS; try clear tm
  intro tm hS
  obtain ⟨c15, hc15⟩ : ∃ x : Bool, x = (((r4 != 0) || (((r6 == 0) && (r8 == 0)) && (r3 == (IntKind.i64.wrap (r5 + r7))))) && true) := ⟨_, rfl⟩
  refine o_cutN 2 (J := fun tm H => S wm 125 tm H [(124, .bool c15)] [] Fr) ?_ ?_
  ·rcases Bool.eq_false_or_eq_true ((r4 != 0) || (((r6 == 0) && (r8 == 0)) && (r3 == (IntKind.i64.wrap (r5 + r7))))) with hg15 | hg15
   ·refine o_call hS (.inr ⟨_, _, _, _, rfl, rfl, rfl, hg15⟩) rfl (fun wm' hw1 hw2 => wpF.told ho32 (Q := fun v H' => v = .bool true ∧ H' = H) ⟨rfl, rfl⟩) (fun wm' res H hw' hp => ?_)
    obtain ⟨rfl, rfl⟩ := hp
    replace hS := hS.put (d := 123) rfl (.bool true)
    clear hw'
    refine o_pickT hS (.inl rfl) rfl rfl hg15 rfl ?_; clear hS; try clear tm
    intro tm hS
    have hc15 : c15 = true := hc15.trans (by rw [hg15]; first | rfl | simp)
    subst hc15
    exact o_nil (hS.keep (ka_cons rfl ka_nil) (fun hI => (hI.sub sn)))
   ·refine o_skip hS rfl rfl rfl hg15 ?_; clear hS; try clear tm
    intro tm hS
    refine o_pickF hS (.inl rfl) rfl rfl hg15 rfl ?_; clear hS; try clear tm
    intro tm hS
    have hc15 : c15 = false := hc15.trans (by rw [hg15]; first | rfl | simp)
    subst hc15
    exact o_nil (hS.keep (ka_cons rfl ka_nil) (fun hI => (hI.sub sn)))
  intro tm H hS
  subst hc15
  refine o_pure hS (.inl rfl) rfl rfl ?_; clear hS; try clear tm
  intro tm hS
  refine o_nil (hR _ _ ?_)
  clear hR R
  refine wpC.ret ?_
  obtain rfl := Option.some.inj h0
  refine Exists.intro _ (And.intro (rs_tmp hS rfl rs_nil) ?_)
  have hI := hS.inv
  exact ⟨rfl, (hI.sub sn)⟩
end Go.Proofs.Ytamlcpligkkciaa.intsRest
