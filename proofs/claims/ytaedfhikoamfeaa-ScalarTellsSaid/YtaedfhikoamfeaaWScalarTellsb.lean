/- ScalarTells: walks of the code: the run of each function comes to what its plain function says. -/
import Derived.Test.YtaedfhikoamfeaaWScalarTellsa
set_option maxHeartbeats 4000000
set_option linter.unusedVariables false
set_option linter.unusedSimpArgs false
set_option maxRecDepth 100000
open Go Go.Am Go.Proofs
namespace Go.Proofs.Ytaedfhikoamfeaa.scalarTells
variable {ora : FuncId → Bool}
theorem wk84 {wm : Nat} {H : AHeap} {Fr : List Ent}  (a1 : Int) (b1 : Int)   (hI : Kn wm H [] Fr) {r : Int × Bool} (h0 : M.ints_add a1 b1 = some r) :
  wpF Try.prog ora wm 84 [.int .i64 a1, .int .i64 b1] H (fun res H => res = .tuple #[.int .i64 r.1, .bool r.2] ∧ Kn wm H [] Fr) := by
 unfold M.ints_add at h0
 refine f_enter (n := 21) Try.func84 rfl (by simp) hI rfl rfl rfl fun tm hS => ?_
 clear hI
 refine c_reg fun R hR => ?_
 refine o_pure hS (.inl rfl) rfl rfl ?_; clear hS
 intro tm hS
 refine o_pure hS (.inl rfl) rfl rfl ?_; clear hS
 intro tm hS
 refine o_nil (hR _ _ ?_)
 clear hR R
 refine c_reg fun R hR => ?_
 refine o_pure hS (.inl rfl) rfl rfl ?_; clear hS
 intro tm hS
 refine o_pure hS (.inl rfl) rfl rfl ?_; clear hS
 intro tm hS
 refine o_pure hS (.inl rfl) rfl rfl ?_; clear hS
 intro tm hS
 refine o_pure hS (.inl rfl) rfl rfl ?_; clear hS
 intro tm hS
 refine o_nil (hR _ _ ?_)
 clear hR R
 refine c_reg fun R hR => ?_
 refine o_pure hS (.inl rfl) rfl rfl ?_; clear hS
 intro tm hS
 refine o_pure hS (.inl rfl) rfl rfl ?_; clear hS
 intro tm hS
 refine o_pure hS (.inl rfl) rfl rfl ?_; clear hS
 intro tm hS
 refine o_pure hS (.inl rfl) rfl rfl ?_; clear hS
 intro tm hS
 refine o_pure hS (.inl rfl) rfl rfl ?_; clear hS
 intro tm hS
 refine o_pure hS (.inl rfl) rfl rfl ?_; clear hS
 intro tm hS
 refine o_pure hS (.inl rfl) rfl rfl ?_; clear hS
 intro tm hS
 refine o_pure hS (.inl rfl) rfl rfl ?_; clear hS
 intro tm hS
 obtain ⟨c1, hc1⟩ : ∃ x : Bool, x = (((decide ((IntKind.i64.wrap (a1 + b1)) > a1)) == (decide (b1 > 0))) || (b1 == 0)) := ⟨_, rfl⟩
 refine o_cutN 3 (J := fun tm H => S wm 21 tm H [(20, .bool c1), (10, .int .i64 (IntKind.i64.wrap (a1 + b1)))] [] Fr) ?_ ?_
 ·rcases Bool.eq_false_or_eq_true ((decide ((IntKind.i64.wrap (a1 + b1)) > a1)) == (decide (b1 > 0))) with hg1 | hg1
  ·refine o_skip hS rfl rfl rfl hg1 ?_; clear hS
   intro tm hS
   refine o_skip hS rfl rfl rfl hg1 ?_; clear hS
   intro tm hS
   refine o_pickT hS (.inl rfl) rfl rfl hg1 rfl ?_; clear hS
   intro tm hS
   have hc1 : c1 = true := hc1.trans (by rw [hg1]; first | rfl | simp)
   subst hc1
   exact o_nil (hS.keep (ka_cons rfl (ka_cons rfl ka_nil)) (fun hI => (hI.sub sn)))
  ·refine o_pure hS (.inr ⟨_, _, _, _, rfl, rfl, rfl, hg1⟩) rfl rfl ?_; clear hS
   intro tm hS
   refine o_pure hS (.inr ⟨_, _, _, _, rfl, rfl, rfl, hg1⟩) rfl rfl ?_; clear hS
   intro tm hS
   refine o_pickF hS (.inl rfl) rfl rfl hg1 rfl ?_; clear hS
   intro tm hS
   have hc1 : c1 = (b1 == 0) := hc1.trans (by rw [hg1]; first | rfl | simp)
   subst hc1
   exact o_nil (hS.keep (ka_cons rfl (ka_cons rfl ka_nil)) (fun hI => (hI.sub sn)))
 intro tm H hS
 subst hc1
 refine o_pure hS (.inl rfl) rfl rfl ?_; clear hS
 intro tm hS
 refine o_pure hS (.inl rfl) rfl rfl ?_; clear hS
 intro tm hS
 refine o_nil (hR _ _ ?_)
 clear hR R
 refine wpC.ret ?_
 obtain rfl := Option.some.inj h0
 refine Exists.intro _ (And.intro (rs_tmp hS rfl (rs_tmp hS rfl rs_nil)) ?_)
 have hI := hS.inv
 exact ⟨rfl, (hI.sub sn)⟩
theorem wk85 {wm : Nat} {H : AHeap} {Fr : List Ent}  (a1 : Int) (b1 : Int)   (hI : Kn wm H [] Fr) {r : Int × Bool} (h0 : M.ints_sub a1 b1 = some r) :
  wpF Try.prog ora wm 85 [.int .i64 a1, .int .i64 b1] H (fun res H => res = .tuple #[.int .i64 r.1, .bool r.2] ∧ Kn wm H [] Fr) := by
 unfold M.ints_sub at h0
 refine f_enter (n := 21) Try.func85 rfl (by simp) hI rfl rfl rfl fun tm hS => ?_
 clear hI
 refine c_reg fun R hR => ?_
 refine o_pure hS (.inl rfl) rfl rfl ?_; clear hS
 intro tm hS
 refine o_pure hS (.inl rfl) rfl rfl ?_; clear hS
 intro tm hS
 refine o_nil (hR _ _ ?_)
 clear hR R
 refine c_reg fun R hR => ?_
 refine o_pure hS (.inl rfl) rfl rfl ?_; clear hS
 intro tm hS
 refine o_pure hS (.inl rfl) rfl rfl ?_; clear hS
 intro tm hS
 refine o_pure hS (.inl rfl) rfl rfl ?_; clear hS
 intro tm hS
 refine o_pure hS (.inl rfl) rfl rfl ?_; clear hS
 intro tm hS
 refine o_nil (hR _ _ ?_)
 clear hR R
 refine c_reg fun R hR => ?_
 refine o_pure hS (.inl rfl) rfl rfl ?_; clear hS
 intro tm hS
 refine o_pure hS (.inl rfl) rfl rfl ?_; clear hS
 intro tm hS
 refine o_pure hS (.inl rfl) rfl rfl ?_; clear hS
 intro tm hS
 refine o_pure hS (.inl rfl) rfl rfl ?_; clear hS
 intro tm hS
 refine o_pure hS (.inl rfl) rfl rfl ?_; clear hS
 intro tm hS
 refine o_pure hS (.inl rfl) rfl rfl ?_; clear hS
 intro tm hS
 refine o_pure hS (.inl rfl) rfl rfl ?_; clear hS
 intro tm hS
 refine o_pure hS (.inl rfl) rfl rfl ?_; clear hS
 intro tm hS
 obtain ⟨c1, hc1⟩ : ∃ x : Bool, x = (((decide ((IntKind.i64.wrap (a1 - b1)) < a1)) == (decide (b1 > 0))) || (b1 == 0)) := ⟨_, rfl⟩
 refine o_cutN 3 (J := fun tm H => S wm 21 tm H [(20, .bool c1), (10, .int .i64 (IntKind.i64.wrap (a1 - b1)))] [] Fr) ?_ ?_
 ·rcases Bool.eq_false_or_eq_true ((decide ((IntKind.i64.wrap (a1 - b1)) < a1)) == (decide (b1 > 0))) with hg1 | hg1
  ·refine o_skip hS rfl rfl rfl hg1 ?_; clear hS
   intro tm hS
   refine o_skip hS rfl rfl rfl hg1 ?_; clear hS
   intro tm hS
   refine o_pickT hS (.inl rfl) rfl rfl hg1 rfl ?_; clear hS
   intro tm hS
   have hc1 : c1 = true := hc1.trans (by rw [hg1]; first | rfl | simp)
   subst hc1
   exact o_nil (hS.keep (ka_cons rfl (ka_cons rfl ka_nil)) (fun hI => (hI.sub sn)))
  ·refine o_pure hS (.inr ⟨_, _, _, _, rfl, rfl, rfl, hg1⟩) rfl rfl ?_; clear hS
   intro tm hS
   refine o_pure hS (.inr ⟨_, _, _, _, rfl, rfl, rfl, hg1⟩) rfl rfl ?_; clear hS
   intro tm hS
   refine o_pickF hS (.inl rfl) rfl rfl hg1 rfl ?_; clear hS
   intro tm hS
   have hc1 : c1 = (b1 == 0) := hc1.trans (by rw [hg1]; first | rfl | simp)
   subst hc1
   exact o_nil (hS.keep (ka_cons rfl (ka_cons rfl ka_nil)) (fun hI => (hI.sub sn)))
 intro tm H hS
 subst hc1
 refine o_pure hS (.inl rfl) rfl rfl ?_; clear hS
 intro tm hS
 refine o_pure hS (.inl rfl) rfl rfl ?_; clear hS
 intro tm hS
 refine o_nil (hR _ _ ?_)
 clear hR R
 refine wpC.ret ?_
 obtain rfl := Option.some.inj h0
 refine Exists.intro _ (And.intro (rs_tmp hS rfl (rs_tmp hS rfl rs_nil)) ?_)
 have hI := hS.inv
 exact ⟨rfl, (hI.sub sn)⟩
theorem wk128 {wm : Nat} {H : AHeap} {Fr : List Ent}  (a1 : Int)   (hI : Kn wm H [] Fr) {r : Int} (h0 : M.ints_size a1 = some r) :
  wpF Try.prog ora wm 128 [.int .i64 a1] H (fun res H => res = .int .u64 r ∧ Kn wm H [] Fr) := by
 unfold M.ints_size at h0
 refine f_enter (n := 10) Try.func128 rfl (by simp) hI rfl rfl rfl fun tm hS => ?_
 clear hI
 refine c_reg fun R hR => ?_
 refine o_pure hS (.inl rfl) rfl rfl ?_; clear hS
 intro tm hS
 refine o_nil (hR _ _ ?_)
 clear hR R
 refine c_seqS ?_
 refine c_reg fun R hR => ?_
 refine o_pure hS (.inl rfl) rfl rfl ?_; clear hS
 intro tm hS
 refine o_pure hS (.inl rfl) rfl rfl ?_; clear hS
 intro tm hS
 refine o_nil (hR _ _ ?_)
 clear hR R
 refine c_cond hS rfl (fun hc => ?_) (fun hc => ?_)
 ·replace h0 := iteT hc h0
  refine c_reg fun R hR => ?_
  refine o_pure hS (.inl rfl) rfl rfl ?_; clear hS
  intro tm hS
  refine o_pure hS (.inl rfl) rfl rfl ?_; clear hS
  intro tm hS
  refine o_pure hS (.inl rfl) rfl rfl ?_; clear hS
  intro tm hS
  refine o_pure hS (.inl rfl) rfl rfl ?_; clear hS
  intro tm hS
  refine o_nil (hR _ _ ?_)
  clear hR R
  refine wpC.ret ?_
  obtain rfl := Option.some.inj h0
  refine Exists.intro _ (And.intro (rs_tmp hS rfl rs_nil) ?_)
  have hI := hS.inv
  exact ⟨rfl, (hI.sub sn)⟩
 ·replace h0 := iteF hc h0
  refine wpC.skip ?_
  refine c_reg fun R hR => ?_
  refine o_pure hS (.inl rfl) rfl rfl ?_; clear hS
  intro tm hS
  refine o_pure hS (.inl rfl) rfl rfl ?_; clear hS
  intro tm hS
  refine o_pure hS (.inl rfl) rfl rfl ?_; clear hS
  intro tm hS
  refine o_nil (hR _ _ ?_)
  clear hR R
  refine wpC.ret ?_
  obtain rfl := Option.some.inj h0
  refine Exists.intro _ (And.intro (rs_tmp hS rfl rs_nil) ?_)
  have hI := hS.inv
  exact ⟨rfl, (hI.sub sn)⟩
theorem wk127 {wm : Nat} {H : AHeap} {Fr : List Ent}  (x1 : Int) (y1 : Int)   (hI : Kn wm H [] Fr) {r : Int × Int} (h0 : M.math_bits_Mul64 x1 y1 = some r) :
  wpF Try.prog ora wm 127 [.int .u64 x1, .int .u64 y1] H (fun res H => res = .tuple #[.int .u64 r.1, .int .u64 r.2] ∧ Kn wm H [] Fr) := by
 unfold M.math_bits_Mul64 at h0
 refine f_enter (n := 51) Try.func127 rfl (by simp) hI rfl rfl rfl fun tm hS => ?_
 clear hI
 refine c_reg fun R hR => ?_
 refine o_pure hS (.inl rfl) rfl rfl ?_; clear hS
 intro tm hS
 refine o_pure hS (.inl rfl) rfl rfl ?_; clear hS
 intro tm hS
 refine o_nil (hR _ _ ?_)
 clear hR R
 refine c_reg fun R hR => ?_
 refine o_pure hS (.inl rfl) rfl rfl ?_; clear hS
 intro tm hS
 refine o_pure hS (.inl rfl) rfl rfl ?_; clear hS
 intro tm hS
 refine o_pure hS (.inl rfl) rfl rfl ?_; clear hS
 intro tm hS
 refine o_nil (hR _ _ ?_)
 clear hR R
 refine c_reg fun R hR => ?_
 refine o_pure hS (.inl rfl) rfl rfl ?_; clear hS
 intro tm hS
 refine o_pure hS (.inl rfl) rfl rfl ?_; clear hS
 intro tm hS
 refine o_pure hS (.inl rfl) rfl rfl ?_; clear hS
 intro tm hS
 refine o_nil (hR _ _ ?_)
 clear hR R
 refine c_reg fun R hR => ?_
 refine o_pure hS (.inl rfl) rfl rfl ?_; clear hS
 intro tm hS
 refine o_pure hS (.inl rfl) rfl rfl ?_; clear hS
 intro tm hS
 refine o_pure hS (.inl rfl) rfl rfl ?_; clear hS
 intro tm hS
 refine o_nil (hR _ _ ?_)
 clear hR R
 refine c_reg fun R hR => ?_
 refine o_pure hS (.inl rfl) rfl rfl ?_; clear hS
 intro tm hS
 refine o_pure hS (.inl rfl) rfl rfl ?_; clear hS
 intro tm hS
 refine o_pure hS (.inl rfl) rfl rfl ?_; clear hS
 intro tm hS
 refine o_nil (hR _ _ ?_)
 clear hR R
 refine c_reg fun R hR => ?_
 refine o_pure hS (.inl rfl) rfl rfl ?_; clear hS
 intro tm hS
 refine o_pure hS (.inl rfl) rfl rfl ?_; clear hS
 intro tm hS
 refine o_pure hS (.inl rfl) rfl rfl ?_; clear hS
 intro tm hS
 refine o_pure hS (.inl rfl) rfl rfl ?_; clear hS
 intro tm hS
 refine o_nil (hR _ _ ?_)
 clear hR R
 refine c_reg fun R hR => ?_
 refine o_pure hS (.inl rfl) rfl rfl ?_; clear hS
 intro tm hS
 refine o_pure hS (.inl rfl) rfl rfl ?_; clear hS
 intro tm hS
 refine o_pure hS (.inl rfl) rfl rfl ?_; clear hS
 intro tm hS
 refine o_pure hS (.inl rfl) rfl rfl ?_; clear hS
 intro tm hS
 refine o_pure hS (.inl rfl) rfl rfl ?_; clear hS
 intro tm hS
 refine o_pure hS (.inl rfl) rfl rfl ?_; clear hS
 intro tm hS
 refine o_pure hS (.inl rfl) rfl rfl ?_; clear hS
 intro tm hS
 refine o_nil (hR _ _ ?_)
 clear hR R
 refine c_reg fun R hR => ?_
 refine o_pure hS (.inl rfl) rfl rfl ?_; clear hS
 intro tm hS
 refine o_pure hS (.inl rfl) rfl rfl ?_; clear hS
 intro tm hS
 refine o_pure hS (.inl rfl) rfl rfl ?_; clear hS
 intro tm hS
 refine o_nil (hR _ _ ?_)
 clear hR R
 refine c_reg fun R hR => ?_
 refine o_pure hS (.inl rfl) rfl rfl ?_; clear hS
 intro tm hS
 refine o_pure hS (.inl rfl) rfl rfl ?_; clear hS
 intro tm hS
 refine o_pure hS (.inl rfl) rfl rfl ?_; clear hS
 intro tm hS
 refine o_nil (hR _ _ ?_)
 clear hR R
 refine c_reg fun R hR => ?_
 refine o_pure hS (.inl rfl) rfl rfl ?_; clear hS
 intro tm hS
 refine o_pure hS (.inl rfl) rfl rfl ?_; clear hS
 intro tm hS
 refine o_pure hS (.inl rfl) rfl rfl ?_; clear hS
 intro tm hS
 refine o_pure hS (.inl rfl) rfl rfl ?_; clear hS
 intro tm hS
 refine o_pure hS (.inl rfl) rfl rfl ?_; clear hS
 intro tm hS
 refine o_pure hS (.inl rfl) rfl rfl ?_; clear hS
 intro tm hS
 refine o_nil (hR _ _ ?_)
 clear hR R
 refine c_reg fun R hR => ?_
 refine o_pure hS (.inl rfl) rfl rfl ?_; clear hS
 intro tm hS
 refine o_pure hS (.inl rfl) rfl rfl ?_; clear hS
 intro tm hS
 refine o_pure hS (.inl rfl) rfl rfl ?_; clear hS
 intro tm hS
 refine o_pure hS (.inl rfl) rfl rfl ?_; clear hS
 intro tm hS
 refine o_pure hS (.inl rfl) rfl rfl ?_; clear hS
 intro tm hS
 refine o_pure hS (.inl rfl) rfl rfl ?_; clear hS
 intro tm hS
 refine o_pure hS (.inl rfl) rfl rfl ?_; clear hS
 intro tm hS
 refine o_pure hS (.inl rfl) rfl rfl ?_; clear hS
 intro tm hS
 refine o_pure hS (.inl rfl) rfl rfl ?_; clear hS
 intro tm hS
 refine o_nil (hR _ _ ?_)
 clear hR R
 refine c_reg fun R hR => ?_
 refine o_pure hS (.inl rfl) rfl rfl ?_; clear hS
 intro tm hS
 refine o_pure hS (.inl rfl) rfl rfl ?_; clear hS
 intro tm hS
 refine o_pure hS (.inl rfl) rfl rfl ?_; clear hS
 intro tm hS
 refine o_pure hS (.inl rfl) rfl rfl ?_; clear hS
 intro tm hS
 refine o_nil (hR _ _ ?_)
 clear hR R
 refine wpC.ret ?_
 obtain rfl := Option.some.inj h0
 refine Exists.intro _ (And.intro (rs_tmp hS rfl (rs_tmp hS rfl rs_nil)) ?_)
 have hI := hS.inv
 exact ⟨rfl, (hI.sub sn)⟩
theorem wk86 {wm : Nat} {H : AHeap} {Fr : List Ent}  (a1 : Int) (b1 : Int)   (hI : Kn wm H [] Fr) {r : Int × Bool} (h0 : M.ints_mul a1 b1 = some r) :
  wpF Try.prog ora wm 86 [.int .i64 a1, .int .i64 b1] H (fun res H => res = .tuple #[.int .i64 r.1, .bool r.2] ∧ Kn wm H [] Fr) := by
 unfold M.ints_mul at h0
 refine f_enter (n := 38) Try.func86 rfl (by simp) hI rfl rfl rfl fun tm hS => ?_
 clear hI
 refine c_reg fun R hR => ?_
 refine o_pure hS (.inl rfl) rfl rfl ?_; clear hS
 intro tm hS
 refine o_pure hS (.inl rfl) rfl rfl ?_; clear hS
 intro tm hS
 refine o_nil (hR _ _ ?_)
 clear hR R
 refine c_reg fun R hR => ?_
 refine o_pure hS (.inl rfl) rfl rfl ?_; clear hS
 intro tm hS
 obtain ⟨r1, hx1, h0⟩ := bindS h0
 refine o_call hS (.inl rfl) rfl (fun wm' hw1 hw2 => wk128  a1   (hS.sel hw2) hx1) (fun wm' res H hw' hp => ?_)
 obtain ⟨hres, hI⟩ := hp
 replace hres := hres.symm; subst hres
 replace hS : S wm 38 _ H ((10, .int .u64 r1) :: _) ([] ++ _) Fr := hS.after rfl hw' hI
 clear hI hw'
 refine o_pure hS (.inl rfl) rfl rfl ?_; clear hS
 intro tm hS
 obtain ⟨r2, hx2, h0⟩ := bindS h0
 refine o_call hS (.inl rfl) rfl (fun wm' hw1 hw2 => wk128  b1   (hS.sel hw2) hx2) (fun wm' res H hw' hp => ?_)
 obtain ⟨hres, hI⟩ := hp
 replace hres := hres.symm; subst hres
 replace hS : S wm 38 _ H ((12, .int .u64 r2) :: _) ([] ++ _) Fr := hS.after rfl hw' hI
 clear hI hw'
 obtain ⟨⟨r3, r4⟩, hx3, h0⟩ := bindS h0
 refine o_call hS (.inl rfl) rfl (fun wm' hw1 hw2 => wk127  r1 r2   (hS.sel hw2) hx3) (fun wm' res H hw' hp => ?_)
 obtain ⟨hres, hI⟩ := hp
 replace hres := hres.symm; subst hres
 replace hS : S wm 38 _ H ((13, .tuple #[.int .u64 r3, .int .u64 r4]) :: _) ([] ++ _) Fr := hS.after rfl hw' hI
 clear hI hw'
 refine o_pure hS (.inl rfl) rfl rfl ?_; clear hS
 intro tm hS
 refine o_pure hS (.inl rfl) rfl rfl ?_; clear hS
 intro tm hS
 refine o_pure hS (.inl rfl) rfl rfl ?_; clear hS
 intro tm hS
 refine o_pure hS (.inl rfl) rfl rfl ?_; clear hS
 intro tm hS
 refine o_pure hS (.inl rfl) rfl rfl ?_; clear hS
 intro tm hS
 refine o_nil (hR _ _ ?_)
 clear hR R
 refine c_seqS ?_
 refine c_reg fun R hR => ?_
 refine o_pure hS (.inl rfl) rfl rfl ?_; clear hS
 intro tm hS
 refine o_pure hS (.inl rfl) rfl rfl ?_; clear hS
 intro tm hS
 refine o_pure hS (.inl rfl) rfl rfl ?_; clear hS
 intro tm hS
 refine o_pure hS (.inl rfl) rfl rfl ?_; clear hS
 intro tm hS
 refine o_pure hS (.inl rfl) rfl rfl ?_; clear hS
 intro tm hS
 refine o_nil (hR _ _ ?_)
 clear hR R
 refine c_cond hS rfl (fun hc => ?_) (fun hc => ?_)
 ·replace h0 := iteT hc h0
  refine c_reg fun R hR => ?_
  refine o_pure hS (.inl rfl) rfl rfl ?_; clear hS
  intro tm hS
  refine o_pure hS (.inl rfl) rfl rfl ?_; clear hS
  intro tm hS
  refine o_pure hS (.inl rfl) rfl rfl ?_; clear hS
  intro tm hS
  refine o_pure hS (.inl rfl) rfl rfl ?_; clear hS
  intro tm hS
  refine o_pure hS (.inl rfl) rfl rfl ?_; clear hS
  intro tm hS
  refine o_pure hS (.inl rfl) rfl rfl ?_; clear hS
  intro tm hS
  obtain ⟨c1, hc1⟩ : ∃ x : Bool, x = ((r3 == 0) && (decide (r4 ≤ 9223372036854775808))) := ⟨_, rfl⟩
  refine o_cutN 3 (J := fun tm H => S wm 38 tm H [(29, .bool c1), (23, .int .i64 (IntKind.i64.wrap (0 - (IntKind.i64.wrap r4))))] [] Fr) ?_ ?_
  ·rcases Bool.eq_false_or_eq_true (r3 == 0) with hg1 | hg1
   ·refine o_pure hS (.inr ⟨_, _, _, _, rfl, rfl, rfl, hg1⟩) rfl rfl ?_; clear hS
    intro tm hS
    refine o_pure hS (.inr ⟨_, _, _, _, rfl, rfl, rfl, hg1⟩) rfl rfl ?_; clear hS
    intro tm hS
    refine o_pickT hS (.inl rfl) rfl rfl hg1 rfl ?_; clear hS
    intro tm hS
    have hc1 : c1 = (decide (r4 ≤ 9223372036854775808)) := hc1.trans (by rw [hg1]; first | rfl | simp)
    subst hc1
    exact o_nil (hS.keep (ka_cons rfl (ka_cons rfl ka_nil)) (fun hI => (hI.sub sn)))
   ·refine o_skip hS rfl rfl rfl hg1 ?_; clear hS
    intro tm hS
    refine o_skip hS rfl rfl rfl hg1 ?_; clear hS
    intro tm hS
    refine o_pickF hS (.inl rfl) rfl rfl hg1 rfl ?_; clear hS
    intro tm hS
    have hc1 : c1 = false := hc1.trans (by rw [hg1]; first | rfl | simp)
    subst hc1
    exact o_nil (hS.keep (ka_cons rfl (ka_cons rfl ka_nil)) (fun hI => (hI.sub sn)))
  intro tm H hS
  subst hc1
  refine o_pure hS (.inl rfl) rfl rfl ?_; clear hS
  intro tm hS
  refine o_pure hS (.inl rfl) rfl rfl ?_; clear hS
  intro tm hS
  refine o_nil (hR _ _ ?_)
  clear hR R
  refine wpC.ret ?_
  obtain rfl := Option.some.inj h0
  refine Exists.intro _ (And.intro (rs_tmp hS rfl (rs_tmp hS rfl rs_nil)) ?_)
  have hI := hS.inv
  exact ⟨rfl, (hI.sub sn)⟩
 ·replace h0 := iteF hc h0
  refine wpC.skip ?_
  refine c_reg fun R hR => ?_
  refine o_pure hS (.inl rfl) rfl rfl ?_; clear hS
  intro tm hS
  refine o_pure hS (.inl rfl) rfl rfl ?_; clear hS
  intro tm hS
  refine o_pure hS (.inl rfl) rfl rfl ?_; clear hS
  intro tm hS
  refine o_pure hS (.inl rfl) rfl rfl ?_; clear hS
  intro tm hS
  refine o_pure hS (.inl rfl) rfl rfl ?_; clear hS
  intro tm hS
  obtain ⟨c2, hc2⟩ : ∃ x : Bool, x = ((r3 == 0) && (decide (r4 < 9223372036854775808))) := ⟨_, rfl⟩
  refine o_cutN 3 (J := fun tm H => S wm 38 tm H [(37, .bool c2), (31, .int .i64 (IntKind.i64.wrap r4))] [] Fr) ?_ ?_
  ·rcases Bool.eq_false_or_eq_true (r3 == 0) with hg2 | hg2
   ·refine o_pure hS (.inr ⟨_, _, _, _, rfl, rfl, rfl, hg2⟩) rfl rfl ?_; clear hS
    intro tm hS
    refine o_pure hS (.inr ⟨_, _, _, _, rfl, rfl, rfl, hg2⟩) rfl rfl ?_; clear hS
    intro tm hS
    refine o_pickT hS (.inl rfl) rfl rfl hg2 rfl ?_; clear hS
    intro tm hS
    have hc2 : c2 = (decide (r4 < 9223372036854775808)) := hc2.trans (by rw [hg2]; first | rfl | simp)
    subst hc2
    exact o_nil (hS.keep (ka_cons rfl (ka_cons rfl ka_nil)) (fun hI => (hI.sub sn)))
   ·refine o_skip hS rfl rfl rfl hg2 ?_; clear hS
    intro tm hS
    refine o_skip hS rfl rfl rfl hg2 ?_; clear hS
    intro tm hS
    refine o_pickF hS (.inl rfl) rfl rfl hg2 rfl ?_; clear hS
    intro tm hS
    have hc2 : c2 = false := hc2.trans (by rw [hg2]; first | rfl | simp)
    subst hc2
    exact o_nil (hS.keep (ka_cons rfl (ka_cons rfl ka_nil)) (fun hI => (hI.sub sn)))
  intro tm H hS
  subst hc2
  refine o_pure hS (.inl rfl) rfl rfl ?_; clear hS
  intro tm hS
  refine o_pure hS (.inl rfl) rfl rfl ?_; clear hS
  intro tm hS
  refine o_nil (hR _ _ ?_)
  clear hR R
  refine wpC.ret ?_
  obtain rfl := Option.some.inj h0
  refine Exists.intro _ (And.intro (rs_tmp hS rfl (rs_tmp hS rfl rs_nil)) ?_)
  have hI := hS.inv
  exact ⟨rfl, (hI.sub sn)⟩
theorem wk87 {wm : Nat} {H : AHeap} {Fr : List Ent}  (a1 : Int) (b1 : Int)   (hI : Kn wm H [] Fr) {r : Int × Bool} (h0 : M.ints_div a1 b1 = some r) :
  wpF Try.prog ora wm 87 [.int .i64 a1, .int .i64 b1] H (fun res H => res = .tuple #[.int .i64 r.1, .bool r.2] ∧ Kn wm H [] Fr) := by
 unfold M.ints_div at h0
 refine f_enter (n := 29) Try.func87 rfl (by simp) hI rfl rfl rfl fun tm hS => ?_
 clear hI
 refine c_reg fun R hR => ?_
 refine o_pure hS (.inl rfl) rfl rfl ?_; clear hS
 intro tm hS
 refine o_pure hS (.inl rfl) rfl rfl ?_; clear hS
 intro tm hS
 refine o_nil (hR _ _ ?_)
 clear hR R
 refine c_seqS ?_
 refine wpC.block ?_
 refine c_reg fun R hR => ?_
 refine o_pure hS (.inl rfl) rfl rfl ?_; clear hS
 intro tm hS
 refine o_pure hS (.inl rfl) rfl rfl ?_; clear hS
 intro tm hS
 refine o_pure hS (.inl rfl) rfl rfl ?_; clear hS
 intro tm hS
 obtain ⟨c1, hc1⟩ : ∃ x : Bool, x = ((a1 == 0) && (b1 == 0)) := ⟨_, rfl⟩
 refine o_cutN 3 (J := fun tm H => S wm 29 tm H [(12, .bool c1), (0, .int .i64 a1), (1, .int .i64 b1)] [] Fr) ?_ ?_
 ·rcases Bool.eq_false_or_eq_true (a1 == 0) with hg1 | hg1
  ·refine o_pure hS (.inr ⟨_, _, _, _, rfl, rfl, rfl, hg1⟩) rfl rfl ?_; clear hS
   intro tm hS
   refine o_pure hS (.inr ⟨_, _, _, _, rfl, rfl, rfl, hg1⟩) rfl rfl ?_; clear hS
   intro tm hS
   refine o_pickT hS (.inl rfl) rfl rfl hg1 rfl ?_; clear hS
   intro tm hS
   have hc1 : c1 = (b1 == 0) := hc1.trans (by rw [hg1]; first | rfl | simp)
   subst hc1
   exact o_nil (hS.keep (ka_cons rfl (ka_cons rfl (ka_cons rfl ka_nil))) (fun hI => (hI.sub sn)))
  ·refine o_skip hS rfl rfl rfl hg1 ?_; clear hS
   intro tm hS
   refine o_skip hS rfl rfl rfl hg1 ?_; clear hS
   intro tm hS
   refine o_pickF hS (.inl rfl) rfl rfl hg1 rfl ?_; clear hS
   intro tm hS
   have hc1 : c1 = false := hc1.trans (by rw [hg1]; first | rfl | simp)
   subst hc1
   exact o_nil (hS.keep (ka_cons rfl (ka_cons rfl (ka_cons rfl ka_nil))) (fun hI => (hI.sub sn)))
 intro tm H hS
 subst hc1
 refine o_pure hS (.inl rfl) rfl rfl ?_; clear hS
 intro tm hS
 refine o_nil (hR _ _ ?_)
 clear hR R
 refine c_cond hS rfl (fun hc => ?_) (fun hc => ?_)
 ·replace h0 := iteT hc h0
  refine c_reg fun R hR => ?_
  refine o_pure hS (.inl rfl) rfl rfl ?_; clear hS
  intro tm hS
  refine o_pure hS (.inl rfl) rfl rfl ?_; clear hS
  intro tm hS
  refine o_nil (hR _ _ ?_)
  clear hR R
  refine wpC.ret ?_
  obtain rfl := Option.some.inj h0
  refine Exists.intro _ (And.intro (rs_tmp hS rfl (rs_tmp hS rfl rs_nil)) ?_)
  have hI := hS.inv
  exact ⟨rfl, (hI.sub sn)⟩
 ·replace h0 := iteF hc h0
  obtain ⟨t1, h1, h0⟩ := bindS h0
  refine c_seqJ (J := fun tm H => (match (generalizing := false) t1 with | t1 => S wm 29 tm H [(0, .int .i64 a1), (1, .int .i64 b1), (13, .bool t1)] [] Fr)) ?_ ?_
  ·refine c_reg fun R hR => ?_
   refine o_pure hS (.inl rfl) rfl rfl ?_; clear hS
   intro tm hS
   refine o_pure hS (.inl rfl) rfl rfl ?_; clear hS
   intro tm hS
   refine o_pure hS (.inl rfl) rfl rfl ?_; clear hS
   intro tm hS
   refine o_nil (hR _ _ ?_)
   clear hR R
   refine c_cond hS rfl (fun hc => ?_) (fun hc => ?_)
   ·replace h1 := iteT hc h1
    refine wpC.skip ?_
    obtain rfl := Option.some.inj h1
    change S wm 29 _ _ _ _ Fr; exact hS.keep (ka_cons rfl (ka_cons rfl (ka_cons rfl ka_nil))) (fun hI => (hI.sub sn))
   ·replace h1 := iteF hc h1
    refine c_reg1 fun R hR => ?_
    refine o_pure hS (.inl rfl) rfl rfl ?_; clear hS
    intro tm hS
    refine o_pure hS (.inl rfl) rfl rfl ?_; clear hS
    intro tm hS
    refine o_pure hS (.inl rfl) rfl rfl ?_; clear hS
    intro tm hS
    obtain ⟨c2, hc2⟩ : ∃ x : Bool, x = ((a1 == (-9223372036854775808)) && (b1 == (-1))) := ⟨_, rfl⟩
    refine o_cutN 3 (J := fun tm H => S wm 29 tm H [(21, .bool c2), (0, .int .i64 a1), (1, .int .i64 b1), (13, .bool (b1 == 0))] [] Fr) ?_ ?_
    ·rcases Bool.eq_false_or_eq_true (a1 == (-9223372036854775808)) with hg2 | hg2
     ·refine o_pure hS (.inr ⟨_, _, _, _, rfl, rfl, rfl, hg2⟩) rfl rfl ?_; clear hS
      intro tm hS
      refine o_pure hS (.inr ⟨_, _, _, _, rfl, rfl, rfl, hg2⟩) rfl rfl ?_; clear hS
      intro tm hS
      refine o_pickT hS (.inl rfl) rfl rfl hg2 rfl ?_; clear hS
      intro tm hS
      have hc2 : c2 = (b1 == (-1)) := hc2.trans (by rw [hg2]; first | rfl | simp)
      subst hc2
      exact o_nil (hS.keep (ka_cons rfl (ka_cons rfl (ka_cons rfl (ka_cons rfl ka_nil)))) (fun hI => (hI.sub sn)))
     ·refine o_skip hS rfl rfl rfl hg2 ?_; clear hS
      intro tm hS
      refine o_skip hS rfl rfl rfl hg2 ?_; clear hS
      intro tm hS
      refine o_pickF hS (.inl rfl) rfl rfl hg2 rfl ?_; clear hS
      intro tm hS
      have hc2 : c2 = false := hc2.trans (by rw [hg2]; first | rfl | simp)
      subst hc2
      exact o_nil (hS.keep (ka_cons rfl (ka_cons rfl (ka_cons rfl (ka_cons rfl ka_nil)))) (fun hI => (hI.sub sn)))
    intro tm H hS
    subst hc2
    refine o_pure hS (.inl rfl) rfl rfl ?_; clear hS
    intro tm hS
    refine o_nil (hR _ _ ?_)
    clear hR R
    obtain rfl := Option.some.inj h1
    change S wm 29 _ _ _ _ Fr; exact hS.keep (ka_cons rfl (ka_cons rfl (ka_cons rfl ka_nil))) (fun hI => (hI.sub sn))
  intro tm H hS
  change S wm 29 tm H [(0, .int .i64 a1), (1, .int .i64 b1), (13, .bool t1)] [] Fr at hS
  refine c_cond hS rfl (fun hc => ?_) (fun hc => ?_)
  ·replace h0 := iteT hc h0
   refine c_reg fun R hR => ?_
   refine o_pure hS (.inl rfl) rfl rfl ?_; clear hS
   intro tm hS
   refine o_pure hS (.inl rfl) rfl rfl ?_; clear hS
   intro tm hS
   refine o_nil (hR _ _ ?_)
   clear hR R
   refine wpC.ret ?_
   obtain rfl := Option.some.inj h0
   refine Exists.intro _ (And.intro (rs_tmp hS rfl (rs_tmp hS rfl rs_nil)) ?_)
   have hI := hS.inv
   exact ⟨rfl, (hI.sub sn)⟩
  ·replace h0 := iteF hc h0
   refine wpC.skip ?_
   refine c_reg fun R hR => ?_
   refine o_pure hS (.inl rfl) rfl rfl ?_; clear hS
   intro tm hS
   refine o_pure hS (.inl rfl) rfl rfl ?_; clear hS
   intro tm hS
   obtain ⟨q1, hx1, h0⟩ := bindS h0
   refine o_quo hS (.inl rfl) rfl rfl rfl hx1 ?_; clear hS
   intro tm hS
   refine o_pure hS (.inl rfl) rfl rfl ?_; clear hS
   intro tm hS
   refine o_pure hS (.inl rfl) rfl rfl ?_; clear hS
   intro tm hS
   obtain ⟨q2, hx2, h0⟩ := bindS h0
   refine o_rem hS (.inl rfl) rfl rfl rfl hx2 ?_; clear hS
   intro tm hS
   refine o_pure hS (.inl rfl) rfl rfl ?_; clear hS
   intro tm hS
   refine o_pure hS (.inl rfl) rfl rfl ?_; clear hS
   intro tm hS
   refine o_pure hS (.inl rfl) rfl rfl ?_; clear hS
   intro tm hS
   refine o_nil (hR _ _ ?_)
   clear hR R
   refine wpC.ret ?_
   obtain rfl := Option.some.inj h0
   refine Exists.intro _ (And.intro (rs_tmp hS rfl (rs_tmp hS rfl rs_nil)) ?_)
   have hI := hS.inv
   exact ⟨rfl, (hI.sub sn)⟩
theorem wk88 {wm : Nat} {H : AHeap} {Fr : List Ent}  (a1 : Int) (b1 : Int)   (hI : Kn wm H [] Fr) {r : Int × Bool} (h0 : M.ints_power a1 b1 = some r) :
  wpF Try.prog ora wm 88 [.int .i64 a1, .int .i64 b1] H (fun res H => res = .tuple #[.int .i64 r.1, .bool r.2] ∧ Kn wm H [] Fr) := by
 unfold M.ints_power at h0
 refine f_enter (n := 53) Try.func88 rfl (by simp) hI rfl rfl rfl fun tm hS => ?_
 clear hI
 refine c_reg fun R hR => ?_
 refine o_pure hS (.inl rfl) rfl rfl ?_; clear hS
 intro tm hS
 refine o_pure hS (.inl rfl) rfl rfl ?_; clear hS
 intro tm hS
 refine o_nil (hR _ _ ?_)
 clear hR R
 refine c_seqS ?_
 refine wpC.block ?_
 refine c_reg fun R hR => ?_
 refine o_pure hS (.inl rfl) rfl rfl ?_; clear hS
 intro tm hS
 refine o_pure hS (.inl rfl) rfl rfl ?_; clear hS
 intro tm hS
 refine o_pure hS (.inl rfl) rfl rfl ?_; clear hS
 intro tm hS
 refine o_nil (hR _ _ ?_)
 clear hR R
 refine c_cond hS rfl (fun hc => ?_) (fun hc => ?_)
 ·replace h0 := iteT hc h0
  refine c_reg fun R hR => ?_
  refine o_pure hS (.inl rfl) rfl rfl ?_; clear hS
  intro tm hS
  refine o_pure hS (.inl rfl) rfl rfl ?_; clear hS
  intro tm hS
  refine o_nil (hR _ _ ?_)
  clear hR R
  refine wpC.ret ?_
  obtain rfl := Option.some.inj h0
  refine Exists.intro _ (And.intro (rs_tmp hS rfl (rs_tmp hS rfl rs_nil)) ?_)
  have hI := hS.inv
  exact ⟨rfl, (hI.sub sn)⟩
 ·replace h0 := iteF hc h0
  obtain ⟨t1, h1, h0⟩ := bindS h0
  refine c_seqJ (J := fun tm H => (match (generalizing := false) t1 with | t1 => S wm 53 tm H [(0, .int .i64 a1), (1, .int .i64 b1), (12, .bool t1)] [] Fr)) ?_ ?_
  ·refine c_reg fun R hR => ?_
   refine o_pure hS (.inl rfl) rfl rfl ?_; clear hS
   intro tm hS
   refine o_pure hS (.inl rfl) rfl rfl ?_; clear hS
   intro tm hS
   refine o_pure hS (.inl rfl) rfl rfl ?_; clear hS
   intro tm hS
   refine o_nil (hR _ _ ?_)
   clear hR R
   refine c_cond hS rfl (fun hc => ?_) (fun hc => ?_)
   ·replace h1 := iteT hc h1
    refine wpC.skip ?_
    obtain rfl := Option.some.inj h1
    change S wm 53 _ _ _ _ Fr; exact hS.keep (ka_cons rfl (ka_cons rfl (ka_cons rfl ka_nil))) (fun hI => (hI.sub sn))
   ·replace h1 := iteF hc h1
    refine c_reg1 fun R hR => ?_
    refine o_pure hS (.inl rfl) rfl rfl ?_; clear hS
    intro tm hS
    refine o_pure hS (.inl rfl) rfl rfl ?_; clear hS
    intro tm hS
    refine o_pure hS (.inl rfl) rfl rfl ?_; clear hS
    intro tm hS
    obtain ⟨c1, hc1⟩ : ∃ x : Bool, x = ((a1 == 0) && (decide (b1 > 0))) := ⟨_, rfl⟩
    refine o_cutN 3 (J := fun tm H => S wm 53 tm H [(20, .bool c1), (0, .int .i64 a1), (1, .int .i64 b1), (12, .bool (a1 == 1))] [] Fr) ?_ ?_
    ·rcases Bool.eq_false_or_eq_true (a1 == 0) with hg1 | hg1
     ·refine o_pure hS (.inr ⟨_, _, _, _, rfl, rfl, rfl, hg1⟩) rfl rfl ?_; clear hS
      intro tm hS
      refine o_pure hS (.inr ⟨_, _, _, _, rfl, rfl, rfl, hg1⟩) rfl rfl ?_; clear hS
      intro tm hS
      refine o_pickT hS (.inl rfl) rfl rfl hg1 rfl ?_; clear hS
      intro tm hS
      have hc1 : c1 = (decide (b1 > 0)) := hc1.trans (by rw [hg1]; first | rfl | simp)
      subst hc1
      exact o_nil (hS.keep (ka_cons rfl (ka_cons rfl (ka_cons rfl (ka_cons rfl ka_nil)))) (fun hI => (hI.sub sn)))
     ·refine o_skip hS rfl rfl rfl hg1 ?_; clear hS
      intro tm hS
      refine o_skip hS rfl rfl rfl hg1 ?_; clear hS
      intro tm hS
      refine o_pickF hS (.inl rfl) rfl rfl hg1 rfl ?_; clear hS
      intro tm hS
      have hc1 : c1 = false := hc1.trans (by rw [hg1]; first | rfl | simp)
      subst hc1
      exact o_nil (hS.keep (ka_cons rfl (ka_cons rfl (ka_cons rfl (ka_cons rfl ka_nil)))) (fun hI => (hI.sub sn)))
    intro tm H hS
    subst hc1
    refine o_pure hS (.inl rfl) rfl rfl ?_; clear hS
    intro tm hS
    refine o_nil (hR _ _ ?_)
    clear hR R
    obtain rfl := Option.some.inj h1
    change S wm 53 _ _ _ _ Fr; exact hS.keep (ka_cons rfl (ka_cons rfl (ka_cons rfl ka_nil))) (fun hI => (hI.sub sn))
  intro tm H hS
  change S wm 53 tm H [(0, .int .i64 a1), (1, .int .i64 b1), (12, .bool t1)] [] Fr at hS
  refine c_cond hS rfl (fun hc => ?_) (fun hc => ?_)
  ·replace h0 := iteT hc h0
   refine c_reg fun R hR => ?_
   refine o_pure hS (.inl rfl) rfl rfl ?_; clear hS
   intro tm hS
   refine o_pure hS (.inl rfl) rfl rfl ?_; clear hS
   intro tm hS
   refine o_pure hS (.inl rfl) rfl rfl ?_; clear hS
   intro tm hS
   refine o_nil (hR _ _ ?_)
   clear hR R
   refine wpC.ret ?_
   obtain rfl := Option.some.inj h0
   refine Exists.intro _ (And.intro (rs_tmp hS rfl (rs_tmp hS rfl rs_nil)) ?_)
   have hI := hS.inv
   exact ⟨rfl, (hI.sub sn)⟩
  ·replace h0 := iteF hc h0
   refine c_reg fun R hR => ?_
   refine o_pure hS (.inl rfl) rfl rfl ?_; clear hS
   intro tm hS
   refine o_pure hS (.inl rfl) rfl rfl ?_; clear hS
   intro tm hS
   refine o_pure hS (.inl rfl) rfl rfl ?_; clear hS
   intro tm hS
   refine o_nil (hR _ _ ?_)
   clear hR R
   refine c_cond hS rfl (fun hc => ?_) (fun hc => ?_)
   ·replace h0 := iteT hc h0
    refine c_reg fun R hR => ?_
    refine o_pure hS (.inl rfl) rfl rfl ?_; clear hS
    intro tm hS
    refine o_pure hS (.inl rfl) rfl rfl ?_; clear hS
    intro tm hS
    refine o_pure hS (.inl rfl) rfl rfl ?_; clear hS
    intro tm hS
    refine o_pure hS (.inl rfl) rfl rfl ?_; clear hS
    intro tm hS
    refine o_pure hS (.inl rfl) rfl rfl ?_; clear hS
    intro tm hS
    refine o_pure hS (.inl rfl) rfl rfl ?_; clear hS
    intro tm hS
    refine o_nil (hR _ _ ?_)
    clear hR R
    refine wpC.ret ?_
    obtain rfl := Option.some.inj h0
    refine Exists.intro _ (And.intro (rs_tmp hS rfl (rs_tmp hS rfl rs_nil)) ?_)
    have hI := hS.inv
    exact ⟨rfl, (hI.sub sn)⟩
   ·replace h0 := iteF hc h0
    refine c_reg fun R hR => ?_
    refine o_pure hS (.inl rfl) rfl rfl ?_; clear hS
    intro tm hS
    refine o_pure hS (.inl rfl) rfl rfl ?_; clear hS
    intro tm hS
    refine o_pure hS (.inl rfl) rfl rfl ?_; clear hS
    intro tm hS
    obtain ⟨c2, hc2⟩ : ∃ x : Bool, x = ((decide (b1 < 0)) || (decide (b1 > 63))) := ⟨_, rfl⟩
    refine o_cutN 3 (J := fun tm H => S wm 53 tm H [(35, .bool c2), (0, .int .i64 a1), (1, .int .i64 b1)] [] Fr) ?_ ?_
    ·rcases Bool.eq_false_or_eq_true (decide (b1 < 0)) with hg2 | hg2
     ·refine o_skip hS rfl rfl rfl hg2 ?_; clear hS
      intro tm hS
      refine o_skip hS rfl rfl rfl hg2 ?_; clear hS
      intro tm hS
      refine o_pickT hS (.inl rfl) rfl rfl hg2 rfl ?_; clear hS
      intro tm hS
      have hc2 : c2 = true := hc2.trans (by rw [hg2]; first | rfl | simp)
      subst hc2
      exact o_nil (hS.keep (ka_cons rfl (ka_cons rfl (ka_cons rfl ka_nil))) (fun hI => (hI.sub sn)))
     ·refine o_pure hS (.inr ⟨_, _, _, _, rfl, rfl, rfl, hg2⟩) rfl rfl ?_; clear hS
      intro tm hS
      refine o_pure hS (.inr ⟨_, _, _, _, rfl, rfl, rfl, hg2⟩) rfl rfl ?_; clear hS
      intro tm hS
      refine o_pickF hS (.inl rfl) rfl rfl hg2 rfl ?_; clear hS
      intro tm hS
      have hc2 : c2 = (decide (b1 > 63)) := hc2.trans (by rw [hg2]; first | rfl | simp)
      subst hc2
      exact o_nil (hS.keep (ka_cons rfl (ka_cons rfl (ka_cons rfl ka_nil))) (fun hI => (hI.sub sn)))
    intro tm H hS
    subst hc2
    refine o_pure hS (.inl rfl) rfl rfl ?_; clear hS
    intro tm hS
    refine o_nil (hR _ _ ?_)
    clear hR R
    refine c_cond hS rfl (fun hc => ?_) (fun hc => ?_)
    ·replace h0 := iteT hc h0
     refine c_reg fun R hR => ?_
     refine o_pure hS (.inl rfl) rfl rfl ?_; clear hS
     intro tm hS
     refine o_pure hS (.inl rfl) rfl rfl ?_; clear hS
     intro tm hS
     refine o_nil (hR _ _ ?_)
     clear hR R
     refine wpC.ret ?_
     obtain rfl := Option.some.inj h0
     refine Exists.intro _ (And.intro (rs_tmp hS rfl (rs_tmp hS rfl rs_nil)) ?_)
     have hI := hS.inv
     exact ⟨rfl, (hI.sub sn)⟩
    ·replace h0 := iteF hc h0
     refine wpC.skip ?_
     refine c_reg fun R hR => ?_
     refine o_pure hS (.inl rfl) rfl rfl ?_; clear hS
     intro tm hS
     refine o_pure hS (.inl rfl) rfl rfl ?_; clear hS
     intro tm hS
     refine o_pure hS (.inl rfl) rfl rfl ?_; clear hS
     intro tm hS
     refine o_nil (hR _ _ ?_)
     clear hR R
     refine c_seqS ?_
     refine c_reg fun R hR => ?_
     refine o_pure hS (.inl rfl) rfl rfl ?_; clear hS
     intro tm hS
     refine o_nil (hR _ _ ?_)
     clear hR R
     obtain ⟨k1, hw1, h0⟩ := bindS h0
     refine wpC.block ?_
     refine c_loop (I := fun (s : Int × Bool × Int) tm H => match (generalizing := false) s with | (c3, ok1, i1) => S wm 53 tm H [(0, .int .i64 a1), (1, .int .i64 b1), (6, .int .i64 c3), (7, .bool ok1), (8, .int .i64 i1)] [] Fr) hw1 (by change S wm 53 _ _ _ _ Fr; exact hS.keep (ka_cons rfl (ka_cons rfl (ka_cons rfl (ka_cons rfl (ka_cons rfl ka_nil))))) (fun hI => (hI.sub sn))) ?_
     clear hS
     intro s1 tm H c4 hS h2 hq2
     obtain ⟨c3, ok1, i1⟩ := s1
     change S wm 53 tm H [(0, .int .i64 a1), (1, .int .i64 b1), (6, .int .i64 c3), (7, .bool ok1), (8, .int .i64 i1)] [] Fr at hS
     refine c_seqS ?_
     refine c_reg fun R hR => ?_
     refine o_pure hS (.inl rfl) rfl rfl ?_; clear hS
     intro tm hS
     refine o_pure hS (.inl rfl) rfl rfl ?_; clear hS
     intro tm hS
     refine o_pure hS (.inl rfl) rfl rfl ?_; clear hS
     intro tm hS
     refine o_pure hS (.inl rfl) rfl rfl ?_; clear hS
     intro tm hS
     obtain ⟨c5, hc3⟩ : ∃ x : Bool, x = ((decide (i1 < b1)) && ok1) := ⟨_, rfl⟩
     refine o_cutN 2 (J := fun tm H => S wm 53 tm H [(42, .bool c5), (0, .int .i64 a1), (1, .int .i64 b1), (6, .int .i64 c3), (7, .bool ok1), (8, .int .i64 i1)] [] Fr) ?_ ?_
     ·rcases Bool.eq_false_or_eq_true (decide (i1 < b1)) with hg3 | hg3
      ·refine o_pure hS (.inr ⟨_, _, _, _, rfl, rfl, rfl, hg3⟩) rfl rfl ?_; clear hS
       intro tm hS
       refine o_pickT hS (.inl rfl) rfl rfl hg3 rfl ?_; clear hS
       intro tm hS
       have hc3 : c5 = ok1 := hc3.trans (by rw [hg3]; first | rfl | simp)
       subst hc3
       exact o_nil (hS.keep (ka_cons rfl (ka_cons rfl (ka_cons rfl (ka_cons rfl (ka_cons rfl (ka_cons rfl ka_nil)))))) (fun hI => (hI.sub sn)))
      ·refine o_skip hS rfl rfl rfl hg3 ?_; clear hS
       intro tm hS
       refine o_pickF hS (.inl rfl) rfl rfl hg3 rfl ?_; clear hS
       intro tm hS
       have hc3 : c5 = false := hc3.trans (by rw [hg3]; first | rfl | simp)
       subst hc3
       exact o_nil (hS.keep (ka_cons rfl (ka_cons rfl (ka_cons rfl (ka_cons rfl (ka_cons rfl (ka_cons rfl ka_nil)))))) (fun hI => (hI.sub sn)))
     intro tm H hS
     subst hc3
     refine o_nil (hR _ _ ?_)
     clear hR R
     refine c_cond hS rfl (fun hc => ?_) (fun hc => ?_)
     ·replace h2 := iteT hc h2
      refine wpC.skip ?_
      refine c_seqS ?_
      refine wpC.block ?_
      refine c_reg1 fun R hR => ?_
      refine o_pure hS (.inl rfl) rfl rfl ?_; clear hS
      intro tm hS
      refine o_pure hS (.inl rfl) rfl rfl ?_; clear hS
      intro tm hS
      obtain ⟨⟨r1, r2⟩, hx1, h2⟩ := bindS h2
      refine o_call hS (.inl rfl) rfl (fun wm' hw1 hw2 => wk86  c3 a1   (hS.sel hw2) hx1) (fun wm' res H hw' hp => ?_)
      obtain ⟨hres, hI⟩ := hp
      replace hres := hres.symm; subst hres
      replace hS : S wm 53 _ H ((48, .tuple #[.int .i64 r1, .bool r2]) :: _) ([] ++ _) Fr := hS.after rfl hw' hI
      clear hI hw'
      refine o_pure hS (.inl rfl) rfl rfl ?_; clear hS
      intro tm hS
      refine o_pure hS (.inl rfl) rfl rfl ?_; clear hS
      intro tm hS
      refine o_pure hS (.inl rfl) rfl rfl ?_; clear hS
      intro tm hS
      refine o_pure hS (.inl rfl) rfl rfl ?_; clear hS
      intro tm hS
      refine o_pure hS (.inl rfl) rfl rfl ?_; clear hS
      intro tm hS
      refine o_nil (hR _ _ ?_)
      clear hR R
      refine c_reg1 fun R hR => ?_
      refine o_pure hS (.inl rfl) rfl rfl ?_; clear hS
      intro tm hS
      refine o_pure hS (.inl rfl) rfl rfl ?_; clear hS
      intro tm hS
      refine o_pure hS (.inl rfl) rfl rfl ?_; clear hS
      intro tm hS
      refine o_nil (hR _ _ ?_)
      clear hR R
      obtain rfl := Option.some.inj h2
      refine ⟨_, rfl, ?_⟩
      change S wm 53 _ _ _ _ Fr; exact hS.keep (ka_cons rfl (ka_cons rfl (ka_cons rfl (ka_cons rfl (ka_cons rfl ka_nil))))) (fun hI => (hI.sub sn))
     ·replace h2 := iteF hc h2
      refine wpC.exit ?_
      refine seqX ?_
      obtain rfl := Option.some.inj h2
      obtain rfl := hq2 _ rfl
      refine And.intro rfl (blk_eq ?_)
      replace h0 := joinN h0
      refine c_reg fun R hR => ?_
      refine o_pure hS (.inl rfl) rfl rfl ?_; clear hS
      intro tm hS
      refine o_pure hS (.inl rfl) rfl rfl ?_; clear hS
      intro tm hS
      refine o_pure hS (.inl rfl) rfl rfl ?_; clear hS
      intro tm hS
      refine o_pure hS (.inl rfl) rfl rfl ?_; clear hS
      intro tm hS
      refine o_nil (hR _ _ ?_)
      clear hR R
      refine wpC.ret ?_
      obtain rfl := Option.some.inj h0
      refine Exists.intro _ (And.intro (rs_tmp hS rfl (rs_tmp hS rfl rs_nil)) ?_)
      have hI := hS.inv
      exact ⟨rfl, (hI.sub sn)⟩
theorem wk89 {wm : Nat} {H : AHeap} {Fr : List Ent}  (a1 : Int) (b1 : Int)   (hI : Kn wm H [] Fr) {r : Int × Bool} (h0 : M.ints_residue a1 b1 = some r) :
  wpF Try.prog ora wm 89 [.int .i64 a1, .int .i64 b1] H (fun res H => res = .tuple #[.int .i64 r.1, .bool r.2] ∧ Kn wm H [] Fr) := by
 unfold M.ints_residue at h0
 refine f_enter (n := 28) Try.func89 rfl (by simp) hI rfl rfl rfl fun tm hS => ?_
 clear hI
 refine c_reg fun R hR => ?_
 refine o_pure hS (.inl rfl) rfl rfl ?_; clear hS
 intro tm hS
 refine o_pure hS (.inl rfl) rfl rfl ?_; clear hS
 intro tm hS
 refine o_nil (hR _ _ ?_)
 clear hR R
 refine c_seqS ?_
 refine c_reg fun R hR => ?_
 refine o_pure hS (.inl rfl) rfl rfl ?_; clear hS
 intro tm hS
 refine o_pure hS (.inl rfl) rfl rfl ?_; clear hS
 intro tm hS
 refine o_nil (hR _ _ ?_)
 clear hR R
 refine c_cond hS rfl (fun hc => ?_) (fun hc => ?_)
 ·replace h0 := iteT hc h0
  refine c_reg fun R hR => ?_
  refine o_pure hS (.inl rfl) rfl rfl ?_; clear hS
  intro tm hS
  refine o_pure hS (.inl rfl) rfl rfl ?_; clear hS
  intro tm hS
  refine o_pure hS (.inl rfl) rfl rfl ?_; clear hS
  intro tm hS
  refine o_nil (hR _ _ ?_)
  clear hR R
  refine wpC.ret ?_
  obtain rfl := Option.some.inj h0
  refine Exists.intro _ (And.intro (rs_tmp hS rfl (rs_tmp hS rfl rs_nil)) ?_)
  have hI := hS.inv
  exact ⟨rfl, (hI.sub sn)⟩
 ·replace h0 := iteF hc h0
  refine wpC.skip ?_
  refine c_seqS ?_
  refine c_reg fun R hR => ?_
  refine o_pure hS (.inl rfl) rfl rfl ?_; clear hS
  intro tm hS
  refine o_pure hS (.inl rfl) rfl rfl ?_; clear hS
  intro tm hS
  refine o_nil (hR _ _ ?_)
  clear hR R
  refine c_cond hS rfl (fun hc => ?_) (fun hc => ?_)
  ·replace h0 := iteT hc h0
   refine c_reg fun R hR => ?_
   refine o_pure hS (.inl rfl) rfl rfl ?_; clear hS
   intro tm hS
   refine o_pure hS (.inl rfl) rfl rfl ?_; clear hS
   intro tm hS
   refine o_nil (hR _ _ ?_)
   clear hR R
   refine wpC.ret ?_
   obtain rfl := Option.some.inj h0
   refine Exists.intro _ (And.intro (rs_tmp hS rfl (rs_tmp hS rfl rs_nil)) ?_)
   have hI := hS.inv
   exact ⟨rfl, (hI.sub sn)⟩
  ·replace h0 := iteF hc h0
   refine wpC.skip ?_
   refine c_reg fun R hR => ?_
   refine o_pure hS (.inl rfl) rfl rfl ?_; clear hS
   intro tm hS
   refine o_pure hS (.inl rfl) rfl rfl ?_; clear hS
   intro tm hS
   obtain ⟨q1, hx1, h0⟩ := bindS h0
   refine o_rem hS (.inl rfl) rfl rfl rfl hx1 ?_; clear hS
   intro tm hS
   refine o_pure hS (.inl rfl) rfl rfl ?_; clear hS
   intro tm hS
   refine o_nil (hR _ _ ?_)
   clear hR R
   obtain ⟨r1, h1, h0⟩ := bindS h0
   refine c_seqJ (J := fun tm H => (match (generalizing := false) r1 with | r1 => S wm 28 tm H [(6, .int .i64 r1)] [] Fr)) ?_ ?_
   ·refine c_reg fun R hR => ?_
    refine o_pure hS (.inl rfl) rfl rfl ?_; clear hS
    intro tm hS
    refine o_pure hS (.inl rfl) rfl rfl ?_; clear hS
    intro tm hS
    refine o_pure hS (.inl rfl) rfl rfl ?_; clear hS
    intro tm hS
    obtain ⟨c1, hc1⟩ : ∃ x : Bool, x = ((q1 != 0) && (!((decide (q1 < 0)) == (decide (a1 < 0))))) := ⟨_, rfl⟩
    refine o_cutN 6 (J := fun tm H => S wm 28 tm H [(23, .bool c1), (0, .int .i64 a1), (6, .int .i64 q1)] [] Fr) ?_ ?_
    ·rcases Bool.eq_false_or_eq_true (q1 != 0) with hg1 | hg1
     ·refine o_pure hS (.inr ⟨_, _, _, _, rfl, rfl, rfl, hg1⟩) rfl rfl ?_; clear hS
      intro tm hS
      refine o_pure hS (.inr ⟨_, _, _, _, rfl, rfl, rfl, hg1⟩) rfl rfl ?_; clear hS
      intro tm hS
      refine o_pure hS (.inr ⟨_, _, _, _, rfl, rfl, rfl, hg1⟩) rfl rfl ?_; clear hS
      intro tm hS
      refine o_pure hS (.inr ⟨_, _, _, _, rfl, rfl, rfl, hg1⟩) rfl rfl ?_; clear hS
      intro tm hS
      refine o_pure hS (.inr ⟨_, _, _, _, rfl, rfl, rfl, hg1⟩) rfl rfl ?_; clear hS
      intro tm hS
      refine o_pickT hS (.inl rfl) rfl rfl hg1 rfl ?_; clear hS
      intro tm hS
      have hc1 : c1 = (!((decide (q1 < 0)) == (decide (a1 < 0)))) := hc1.trans (by rw [hg1]; first | rfl | simp)
      subst hc1
      exact o_nil (hS.keep (ka_cons rfl (ka_cons rfl (ka_cons rfl ka_nil))) (fun hI => (hI.sub sn)))
     ·refine o_skip hS rfl rfl rfl hg1 ?_; clear hS
      intro tm hS
      refine o_skip hS rfl rfl rfl hg1 ?_; clear hS
      intro tm hS
      refine o_skip hS rfl rfl rfl hg1 ?_; clear hS
      intro tm hS
      refine o_skip hS rfl rfl rfl hg1 ?_; clear hS
      intro tm hS
      refine o_skip hS rfl rfl rfl hg1 ?_; clear hS
      intro tm hS
      refine o_pickF hS (.inl rfl) rfl rfl hg1 rfl ?_; clear hS
      intro tm hS
      have hc1 : c1 = false := hc1.trans (by rw [hg1]; first | rfl | simp)
      subst hc1
      exact o_nil (hS.keep (ka_cons rfl (ka_cons rfl (ka_cons rfl ka_nil))) (fun hI => (hI.sub sn)))
    intro tm H hS
    subst hc1
    refine o_nil (hR _ _ ?_)
    clear hR R
    refine c_cond hS rfl (fun hc => ?_) (fun hc => ?_)
    ·replace h1 := iteT hc h1
     refine c_reg1 fun R hR => ?_
     refine o_pure hS (.inl rfl) rfl rfl ?_; clear hS
     intro tm hS
     refine o_pure hS (.inl rfl) rfl rfl ?_; clear hS
     intro tm hS
     refine o_pure hS (.inl rfl) rfl rfl ?_; clear hS
     intro tm hS
     refine o_pure hS (.inl rfl) rfl rfl ?_; clear hS
     intro tm hS
     refine o_nil (hR _ _ ?_)
     clear hR R
     obtain rfl := Option.some.inj h1
     change S wm 28 _ _ _ _ Fr; exact hS.keep (ka_cons rfl ka_nil) (fun hI => (hI.sub sn))
    ·replace h1 := iteF hc h1
     refine wpC.skip ?_
     obtain rfl := Option.some.inj h1
     change S wm 28 _ _ _ _ Fr; exact hS.keep (ka_cons rfl ka_nil) (fun hI => (hI.sub sn))
   intro tm H hS
   change S wm 28 tm H [(6, .int .i64 r1)] [] Fr at hS
   refine c_reg fun R hR => ?_
   refine o_pure hS (.inl rfl) rfl rfl ?_; clear hS
   intro tm hS
   refine o_pure hS (.inl rfl) rfl rfl ?_; clear hS
   intro tm hS
   refine o_pure hS (.inl rfl) rfl rfl ?_; clear hS
   intro tm hS
   refine o_nil (hR _ _ ?_)
   clear hR R
   refine wpC.ret ?_
   obtain rfl := Option.some.inj h0
   refine Exists.intro _ (And.intro (rs_tmp hS rfl (rs_tmp hS rfl rs_nil)) ?_)
   have hI := hS.inv
   exact ⟨rfl, (hI.sub sn)⟩
theorem wk147 {wm : Nat} {H : AHeap} {Fr : List Ent}  (x1 : Int)   (hI : Kn wm H [] Fr) {r : Int} (h0 : M.math_bits_Len64 x1 = some r) :
  wpF Try.prog ora wm 147 [.int .u64 x1] H (fun res H => res = .int .i64 r ∧ Kn wm H [] Fr) := by
 unfold M.math_bits_Len64 at h0
 refine f_enter (n := 25) Try.func147 rfl (by simp) hI rfl rfl rfl fun tm hS => ?_
 clear hI
 refine c_reg fun R hR => ?_
 refine o_pure hS (.inl rfl) rfl rfl ?_; clear hS
 intro tm hS
 refine o_nil (hR _ _ ?_)
 clear hR R
 obtain ⟨k1, h1, h0⟩ := bindS h0
 refine c_seqJ (J := fun tm H => (match (generalizing := false) k1 with | (x2, n1) => S wm 25 tm H [(0, .int .u64 x2), (2, .int .i64 n1)] [] Fr)) ?_ ?_
 ·refine c_reg fun R hR => ?_
  refine o_pure hS (.inl rfl) rfl rfl ?_; clear hS
  intro tm hS
  refine o_pure hS (.inl rfl) rfl rfl ?_; clear hS
  intro tm hS
  refine o_nil (hR _ _ ?_)
  clear hR R
  refine c_cond hS rfl (fun hc => ?_) (fun hc => ?_)
  ·replace h1 := iteT hc h1
   refine c_reg fun R hR => ?_
   refine o_pure hS (.inl rfl) rfl rfl ?_; clear hS
   intro tm hS
   refine o_pure hS (.inl rfl) rfl rfl ?_; clear hS
   intro tm hS
   refine o_pure hS (.inl rfl) rfl rfl ?_; clear hS
   intro tm hS
   refine o_nil (hR _ _ ?_)
   clear hR R
   refine c_reg1 fun R hR => ?_
   refine o_pure hS (.inl rfl) rfl rfl ?_; clear hS
   intro tm hS
   refine o_nil (hR _ _ ?_)
   clear hR R
   obtain rfl := Option.some.inj h1
   change S wm 25 _ _ _ _ Fr; exact hS.keep (ka_cons rfl (ka_cons rfl ka_nil)) (fun hI => (hI.sub sn))
  ·replace h1 := iteF hc h1
   refine wpC.skip ?_
   obtain rfl := Option.some.inj h1
   change S wm 25 _ _ _ _ Fr; exact hS.keep (ka_cons rfl (ka_cons rfl ka_nil)) (fun hI => (hI.sub sn))
 intro tm H hS
 obtain ⟨x2, n1⟩ := k1
 change S wm 25 tm H [(0, .int .u64 x2), (2, .int .i64 n1)] [] Fr at hS
 obtain ⟨k2, h2, h0⟩ := bindS h0
 refine c_seqJ (J := fun tm H => (match (generalizing := false) k2 with | (x3, n2) => S wm 25 tm H [(0, .int .u64 x3), (2, .int .i64 n2)] [] Fr)) ?_ ?_
 ·refine c_reg fun R hR => ?_
  refine o_pure hS (.inl rfl) rfl rfl ?_; clear hS
  intro tm hS
  refine o_pure hS (.inl rfl) rfl rfl ?_; clear hS
  intro tm hS
  refine o_nil (hR _ _ ?_)
  clear hR R
  refine c_cond hS rfl (fun hc => ?_) (fun hc => ?_)
  ·replace h2 := iteT hc h2
   refine c_reg fun R hR => ?_
   refine o_pure hS (.inl rfl) rfl rfl ?_; clear hS
   intro tm hS
   refine o_pure hS (.inl rfl) rfl rfl ?_; clear hS
   intro tm hS
   refine o_pure hS (.inl rfl) rfl rfl ?_; clear hS
   intro tm hS
   refine o_nil (hR _ _ ?_)
   clear hR R
   refine c_reg1 fun R hR => ?_
   refine o_pure hS (.inl rfl) rfl rfl ?_; clear hS
   intro tm hS
   refine o_pure hS (.inl rfl) rfl rfl ?_; clear hS
   intro tm hS
   refine o_pure hS (.inl rfl) rfl rfl ?_; clear hS
   intro tm hS
   refine o_nil (hR _ _ ?_)
   clear hR R
   obtain rfl := Option.some.inj h2
   change S wm 25 _ _ _ _ Fr; exact hS.keep (ka_cons rfl (ka_cons rfl ka_nil)) (fun hI => (hI.sub sn))
  ·replace h2 := iteF hc h2
   refine wpC.skip ?_
   obtain rfl := Option.some.inj h2
   change S wm 25 _ _ _ _ Fr; exact hS.keep (ka_cons rfl (ka_cons rfl ka_nil)) (fun hI => (hI.sub sn))
 intro tm H hS
 obtain ⟨x3, n2⟩ := k2
 change S wm 25 tm H [(0, .int .u64 x3), (2, .int .i64 n2)] [] Fr at hS
 obtain ⟨k3, h3, h0⟩ := bindS h0
 refine c_seqJ (J := fun tm H => (match (generalizing := false) k3 with | (x4, n3) => S wm 25 tm H [(0, .int .u64 x4), (2, .int .i64 n3)] [] Fr)) ?_ ?_
 ·refine c_reg fun R hR => ?_
  refine o_pure hS (.inl rfl) rfl rfl ?_; clear hS
  intro tm hS
  refine o_pure hS (.inl rfl) rfl rfl ?_; clear hS
  intro tm hS
  refine o_nil (hR _ _ ?_)
  clear hR R
  refine c_cond hS rfl (fun hc => ?_) (fun hc => ?_)
  ·replace h3 := iteT hc h3
   refine c_reg fun R hR => ?_
   refine o_pure hS (.inl rfl) rfl rfl ?_; clear hS
   intro tm hS
   refine o_pure hS (.inl rfl) rfl rfl ?_; clear hS
   intro tm hS
   refine o_pure hS (.inl rfl) rfl rfl ?_; clear hS
   intro tm hS
   refine o_nil (hR _ _ ?_)
   clear hR R
   refine c_reg1 fun R hR => ?_
   refine o_pure hS (.inl rfl) rfl rfl ?_; clear hS
   intro tm hS
   refine o_pure hS (.inl rfl) rfl rfl ?_; clear hS
   intro tm hS
   refine o_pure hS (.inl rfl) rfl rfl ?_; clear hS
   intro tm hS
   refine o_nil (hR _ _ ?_)
   clear hR R
   obtain rfl := Option.some.inj h3
   change S wm 25 _ _ _ _ Fr; exact hS.keep (ka_cons rfl (ka_cons rfl ka_nil)) (fun hI => (hI.sub sn))
  ·replace h3 := iteF hc h3
   refine wpC.skip ?_
   obtain rfl := Option.some.inj h3
   change S wm 25 _ _ _ _ Fr; exact hS.keep (ka_cons rfl (ka_cons rfl ka_nil)) (fun hI => (hI.sub sn))
 intro tm H hS
 obtain ⟨x4, n3⟩ := k3
 change S wm 25 tm H [(0, .int .u64 x4), (2, .int .i64 n3)] [] Fr at hS
 refine c_reg fun R hR => ?_
 refine o_pure hS (.inl rfl) rfl rfl ?_; clear hS
 intro tm hS
 refine o_pure hS (.inl rfl) rfl rfl ?_; clear hS
 intro tm hS
 refine o_pure hS (.inl rfl) rfl rfl ?_; clear hS
 intro tm hS
 obtain ⟨y1, hx1, h0⟩ := bindS h0
 refine o_sidx hS (.inl rfl) rfl rfl rfl Fu9 hx1 ?_; clear hS
 intro tm hS
 refine o_pure hS (.inl rfl) rfl rfl ?_; clear hS
 intro tm hS
 refine o_pure hS (.inl rfl) rfl rfl ?_; clear hS
 intro tm hS
 refine o_pure hS (.inl rfl) rfl rfl ?_; clear hS
 intro tm hS
 refine o_nil (hR _ _ ?_)
 clear hR R
 refine wpC.ret ?_
 obtain rfl := Option.some.inj h0
 refine Exists.intro _ (And.intro (rs_tmp hS rfl rs_nil) ?_)
 have hI := hS.inv
 exact ⟨rfl, (hI.sub sn)⟩
theorem wk145 {wm : Nat} {H : AHeap} {Fr : List Ent}  (x1 : Int)   (hI : Kn wm H [] Fr) {r : Int} (h0 : M.math_bits_LeadingZeros64 x1 = some r) :
  wpF Try.prog ora wm 145 [.int .u64 x1] H (fun res H => res = .int .i64 r ∧ Kn wm H [] Fr) := by
 unfold M.math_bits_LeadingZeros64 at h0
 refine f_enter (n := 6) Try.func145 rfl (by simp) hI rfl rfl rfl fun tm hS => ?_
 clear hI
 refine c_reg fun R hR => ?_
 refine o_pure hS (.inl rfl) rfl rfl ?_; clear hS
 intro tm hS
 refine o_nil (hR _ _ ?_)
 clear hR R
 refine c_reg fun R hR => ?_
 refine o_pure hS (.inl rfl) rfl rfl ?_; clear hS
 intro tm hS
 obtain ⟨r1, hx1, h0⟩ := bindS h0
 refine o_call hS (.inl rfl) rfl (fun wm' hw1 hw2 => wk147  x1   (hS.sel hw2) hx1) (fun wm' res H hw' hp => ?_)
 obtain ⟨hres, hI⟩ := hp
 replace hres := hres.symm; subst hres
 replace hS : S wm 6 _ H ((4, .int .i64 r1) :: _) ([] ++ _) Fr := hS.after rfl hw' hI
 clear hI hw'
 refine o_pure hS (.inl rfl) rfl rfl ?_; clear hS
 intro tm hS
 refine o_pure hS (.inl rfl) rfl rfl ?_; clear hS
 intro tm hS
 refine o_nil (hR _ _ ?_)
 clear hR R
 refine wpC.ret ?_
 obtain rfl := Option.some.inj h0
 refine Exists.intro _ (And.intro (rs_tmp hS rfl rs_nil) ?_)
 have hI := hS.inv
 exact ⟨rfl, (hI.sub sn)⟩
theorem wk129 {wm : Nat} {H : AHeap} {Fr : List Ent}  (hi1 : Int) (lo1 : Int) (y1 : Int)   (hI : Kn wm H [] Fr) {r : Int × Int} (h0 : M.math_bits_Div64 hi1 lo1 y1 = some r) :
  wpF Try.prog ora wm 129 [.int .u64 hi1, .int .u64 lo1, .int .u64 y1] H (fun res H => res = .tuple #[.int .u64 r.1, .int .u64 r.2] ∧ Kn wm H [] Fr) := by
 unfold M.math_bits_Div64 at h0
 refine f_enter (n := 135) Try.func129 rfl (by simp) hI rfl rfl rfl fun tm hS => ?_
 clear hI
 refine c_reg fun R hR => ?_
 refine o_pure hS (.inl rfl) rfl rfl ?_; clear hS
 intro tm hS
 refine o_pure hS (.inl rfl) rfl rfl ?_; clear hS
 intro tm hS
 refine o_nil (hR _ _ ?_)
 clear hR R
 refine c_seqS ?_
 refine c_reg fun R hR => ?_
 refine o_pure hS (.inl rfl) rfl rfl ?_; clear hS
 intro tm hS
 refine o_pure hS (.inl rfl) rfl rfl ?_; clear hS
 intro tm hS
 refine o_nil (hR _ _ ?_)
 clear hR R
 refine c_cond hS rfl (fun hc => ?_) (fun hc => ?_)
 ·replace h0 := iteT hc h0
  cases h0
 ·replace h0 := iteF hc h0
  refine wpC.skip ?_
  refine c_seqS ?_
  refine c_reg fun R hR => ?_
  refine o_pure hS (.inl rfl) rfl rfl ?_; clear hS
  intro tm hS
  refine o_pure hS (.inl rfl) rfl rfl ?_; clear hS
  intro tm hS
  refine o_pure hS (.inl rfl) rfl rfl ?_; clear hS
  intro tm hS
  refine o_nil (hR _ _ ?_)
  clear hR R
  refine c_cond hS rfl (fun hc => ?_) (fun hc => ?_)
  ·replace h0 := iteT hc h0
   cases h0
  ·replace h0 := iteF hc h0
   refine wpC.skip ?_
   refine c_seqS ?_
   refine c_reg fun R hR => ?_
   refine o_pure hS (.inl rfl) rfl rfl ?_; clear hS
   intro tm hS
   refine o_pure hS (.inl rfl) rfl rfl ?_; clear hS
   intro tm hS
   refine o_nil (hR _ _ ?_)
   clear hR R
   refine c_cond hS rfl (fun hc => ?_) (fun hc => ?_)
   ·replace h0 := iteT hc h0
    refine c_reg fun R hR => ?_
    refine o_pure hS (.inl rfl) rfl rfl ?_; clear hS
    intro tm hS
    refine o_pure hS (.inl rfl) rfl rfl ?_; clear hS
    intro tm hS
    obtain ⟨q1, hx1, h0⟩ := bindS h0
    refine o_quo hS (.inl rfl) rfl rfl rfl hx1 ?_; clear hS
    intro tm hS
    refine o_pure hS (.inl rfl) rfl rfl ?_; clear hS
    intro tm hS
    refine o_pure hS (.inl rfl) rfl rfl ?_; clear hS
    intro tm hS
    obtain ⟨q2, hx2, h0⟩ := bindS h0
    refine o_rem hS (.inl rfl) rfl rfl rfl hx2 ?_; clear hS
    intro tm hS
    refine o_pure hS (.inl rfl) rfl rfl ?_; clear hS
    intro tm hS
    refine o_pure hS (.inl rfl) rfl rfl ?_; clear hS
    intro tm hS
    refine o_nil (hR _ _ ?_)
    clear hR R
    refine wpC.ret ?_
    obtain rfl := Option.some.inj h0
    refine Exists.intro _ (And.intro (rs_tmp hS rfl (rs_tmp hS rfl rs_nil)) ?_)
    have hI := hS.inv
    exact ⟨rfl, (hI.sub sn)⟩
   ·replace h0 := iteF hc h0
    refine wpC.skip ?_
    refine c_reg fun R hR => ?_
    refine o_pure hS (.inl rfl) rfl rfl ?_; clear hS
    intro tm hS
    obtain ⟨r1, hx3, h0⟩ := bindS h0
    refine o_call hS (.inl rfl) rfl (fun wm' hw1 hw2 => wk145  y1   (hS.sel hw2) hx3) (fun wm' res H hw' hp => ?_)
    obtain ⟨hres, hI⟩ := hp
    replace hres := hres.symm; subst hres
    replace hS : S wm 135 _ H ((35, .int .i64 r1) :: _) ([] ++ _) Fr := hS.after rfl hw' hI
    clear hI hw'
    refine o_pure hS (.inl rfl) rfl rfl ?_; clear hS
    intro tm hS
    refine o_pure hS (.inl rfl) rfl rfl ?_; clear hS
    intro tm hS
    refine o_nil (hR _ _ ?_)
    clear hR R
    refine c_reg fun R hR => ?_
    refine o_pure hS (.inl rfl) rfl rfl ?_; clear hS
    intro tm hS
    refine o_pure hS (.inl rfl) rfl rfl ?_; clear hS
    intro tm hS
    obtain ⟨q3, hx4, h0⟩ := bindS h0
    refine o_shl hS (.inl rfl) rfl rfl rfl hx4 ?_; clear hS
    intro tm hS
    refine o_pure hS (.inl rfl) rfl rfl ?_; clear hS
    intro tm hS
    refine o_nil (hR _ _ ?_)
    clear hR R
    refine c_reg fun R hR => ?_
    refine o_pure hS (.inl rfl) rfl rfl ?_; clear hS
    intro tm hS
    refine o_pure hS (.inl rfl) rfl rfl ?_; clear hS
    intro tm hS
    refine o_pure hS (.inl rfl) rfl rfl ?_; clear hS
    intro tm hS
    refine o_nil (hR _ _ ?_)
    clear hR R
    refine c_reg fun R hR => ?_
    refine o_pure hS (.inl rfl) rfl rfl ?_; clear hS
    intro tm hS
    refine o_pure hS (.inl rfl) rfl rfl ?_; clear hS
    intro tm hS
    refine o_pure hS (.inl rfl) rfl rfl ?_; clear hS
    intro tm hS
    refine o_nil (hR _ _ ?_)
    clear hR R
    refine c_reg fun R hR => ?_
    refine o_pure hS (.inl rfl) rfl rfl ?_; clear hS
    intro tm hS
    refine o_pure hS (.inl rfl) rfl rfl ?_; clear hS
    intro tm hS
    obtain ⟨q4, hx5, h0⟩ := bindS h0
    refine o_shl hS (.inl rfl) rfl rfl rfl hx5 ?_; clear hS
    intro tm hS
    refine o_pure hS (.inl rfl) rfl rfl ?_; clear hS
    intro tm hS
    refine o_pure hS (.inl rfl) rfl rfl ?_; clear hS
    intro tm hS
    refine o_pure hS (.inl rfl) rfl rfl ?_; clear hS
    intro tm hS
    obtain ⟨q5, hx6, h0⟩ := bindS h0
    refine o_shr hS (.inl rfl) rfl rfl rfl hx6 ?_; clear hS
    intro tm hS
    refine o_pure hS (.inl rfl) rfl rfl ?_; clear hS
    intro tm hS
    refine o_pure hS (.inl rfl) rfl rfl ?_; clear hS
    intro tm hS
    refine o_nil (hR _ _ ?_)
    clear hR R
    refine c_reg fun R hR => ?_
    refine o_pure hS (.inl rfl) rfl rfl ?_; clear hS
    intro tm hS
    refine o_pure hS (.inl rfl) rfl rfl ?_; clear hS
    intro tm hS
    obtain ⟨q6, hx7, h0⟩ := bindS h0
    refine o_shl hS (.inl rfl) rfl rfl rfl hx7 ?_; clear hS
    intro tm hS
    refine o_pure hS (.inl rfl) rfl rfl ?_; clear hS
    intro tm hS
    refine o_nil (hR _ _ ?_)
    clear hR R
    refine c_reg fun R hR => ?_
    refine o_pure hS (.inl rfl) rfl rfl ?_; clear hS
    intro tm hS
    refine o_pure hS (.inl rfl) rfl rfl ?_; clear hS
    intro tm hS
    refine o_pure hS (.inl rfl) rfl rfl ?_; clear hS
    intro tm hS
    refine o_nil (hR _ _ ?_)
    clear hR R
    refine c_reg fun R hR => ?_
    refine o_pure hS (.inl rfl) rfl rfl ?_; clear hS
    intro tm hS
    refine o_pure hS (.inl rfl) rfl rfl ?_; clear hS
    intro tm hS
    refine o_pure hS (.inl rfl) rfl rfl ?_; clear hS
    intro tm hS
    refine o_nil (hR _ _ ?_)
    clear hR R
    refine c_reg fun R hR => ?_
    refine o_pure hS (.inl rfl) rfl rfl ?_; clear hS
    intro tm hS
    refine o_pure hS (.inl rfl) rfl rfl ?_; clear hS
    intro tm hS
    obtain ⟨q7, hx8, h0⟩ := bindS h0
    refine o_quo hS (.inl rfl) rfl rfl rfl hx8 ?_; clear hS
    intro tm hS
    refine o_pure hS (.inl rfl) rfl rfl ?_; clear hS
    intro tm hS
    refine o_nil (hR _ _ ?_)
    clear hR R
    refine c_reg fun R hR => ?_
    refine o_pure hS (.inl rfl) rfl rfl ?_; clear hS
    intro tm hS
    refine o_pure hS (.inl rfl) rfl rfl ?_; clear hS
    intro tm hS
    refine o_pure hS (.inl rfl) rfl rfl ?_; clear hS
    intro tm hS
    refine o_pure hS (.inl rfl) rfl rfl ?_; clear hS
    intro tm hS
    refine o_pure hS (.inl rfl) rfl rfl ?_; clear hS
    intro tm hS
    refine o_pure hS (.inl rfl) rfl rfl ?_; clear hS
    intro tm hS
    refine o_nil (hR _ _ ?_)
    clear hR R
    obtain ⟨q8, h2, h0⟩ := bindS h0
    refine c_seqJ (J := fun tm H => (match (generalizing := false) q8 with | q8 => S wm 135 tm H [(2, .int .u64 q3), (8, .int .u64 (IntKind.u64.wrap r1)), (9, .int .u64 (Int.fdiv q3 (2 ^ (min (Int.toNat 32) IntKind.u64.bits)))), (10, .int .u64 (IntKind.u64.wrap (BitVec.ofInt IntKind.u64.bits q3 &&& BitVec.ofInt IntKind.u64.bits 4294967295).toNat)), (11, .int .u64 (IntKind.u64.wrap (BitVec.ofInt IntKind.u64.bits q4 ||| BitVec.ofInt IntKind.u64.bits q5).toNat)), (13, .int .u64 (Int.fdiv q6 (2 ^ (min (Int.toNat 32) IntKind.u64.bits)))), (14, .int .u64 (IntKind.u64.wrap (BitVec.ofInt IntKind.u64.bits q6 &&& BitVec.ofInt IntKind.u64.bits 4294967295).toNat)), (15, .int .u64 q8)] [] Fr)) ?_ ?_
    ·obtain ⟨k1, hw1, h2⟩ := bindS h2
     refine wpC.block ?_
     refine c_loop (I := fun (s : Int × Int) tm H => match (generalizing := false) s with | (q9, rhat1) => S wm 135 tm H [(2, .int .u64 q3), (8, .int .u64 (IntKind.u64.wrap r1)), (9, .int .u64 (Int.fdiv q3 (2 ^ (min (Int.toNat 32) IntKind.u64.bits)))), (10, .int .u64 (IntKind.u64.wrap (BitVec.ofInt IntKind.u64.bits q3 &&& BitVec.ofInt IntKind.u64.bits 4294967295).toNat)), (11, .int .u64 (IntKind.u64.wrap (BitVec.ofInt IntKind.u64.bits q4 ||| BitVec.ofInt IntKind.u64.bits q5).toNat)), (13, .int .u64 (Int.fdiv q6 (2 ^ (min (Int.toNat 32) IntKind.u64.bits)))), (14, .int .u64 (IntKind.u64.wrap (BitVec.ofInt IntKind.u64.bits q6 &&& BitVec.ofInt IntKind.u64.bits 4294967295).toNat)), (15, .int .u64 q9), (16, .int .u64 rhat1)] [] Fr) hw1 (by change S wm 135 _ _ _ _ Fr; exact hS.keep (ka_cons rfl (ka_cons rfl (ka_cons rfl (ka_cons rfl (ka_cons rfl (ka_cons rfl (ka_cons rfl (ka_cons rfl (ka_cons rfl ka_nil))))))))) (fun hI => (hI.sub sn))) ?_
     clear hS
     intro s1 tm H c1 hS h3 hq3
     obtain ⟨q9, rhat1⟩ := s1
     change S wm 135 tm H [(2, .int .u64 q3), (8, .int .u64 (IntKind.u64.wrap r1)), (9, .int .u64 (Int.fdiv q3 (2 ^ (min (Int.toNat 32) IntKind.u64.bits)))), (10, .int .u64 (IntKind.u64.wrap (BitVec.ofInt IntKind.u64.bits q3 &&& BitVec.ofInt IntKind.u64.bits 4294967295).toNat)), (11, .int .u64 (IntKind.u64.wrap (BitVec.ofInt IntKind.u64.bits q4 ||| BitVec.ofInt IntKind.u64.bits q5).toNat)), (13, .int .u64 (Int.fdiv q6 (2 ^ (min (Int.toNat 32) IntKind.u64.bits)))), (14, .int .u64 (IntKind.u64.wrap (BitVec.ofInt IntKind.u64.bits q6 &&& BitVec.ofInt IntKind.u64.bits 4294967295).toNat)), (15, .int .u64 q9), (16, .int .u64 rhat1)] [] Fr at hS
     refine c_seqS ?_
     refine c_reg fun R hR => ?_
     refine o_pure hS (.inl rfl) rfl rfl ?_; clear hS
     intro tm hS
     refine o_pure hS (.inl rfl) rfl rfl ?_; clear hS
     intro tm hS
     refine o_pure hS (.inl rfl) rfl rfl ?_; clear hS
     intro tm hS
     obtain ⟨c2, hc1⟩ : ∃ x : Bool, x = ((decide (q9 ≥ 4294967296)) || (decide ((IntKind.u64.wrap (q9 * (IntKind.u64.wrap (BitVec.ofInt IntKind.u64.bits q3 &&& BitVec.ofInt IntKind.u64.bits 4294967295).toNat))) > (IntKind.u64.wrap ((IntKind.u64.wrap (4294967296 * rhat1)) + (Int.fdiv q6 (2 ^ (min (Int.toNat 32) IntKind.u64.bits)))))))) := ⟨_, rfl⟩
     refine o_cutN 9 (J := fun tm H => S wm 135 tm H [(78, .bool c2), (2, .int .u64 q3), (8, .int .u64 (IntKind.u64.wrap r1)), (9, .int .u64 (Int.fdiv q3 (2 ^ (min (Int.toNat 32) IntKind.u64.bits)))), (10, .int .u64 (IntKind.u64.wrap (BitVec.ofInt IntKind.u64.bits q3 &&& BitVec.ofInt IntKind.u64.bits 4294967295).toNat)), (11, .int .u64 (IntKind.u64.wrap (BitVec.ofInt IntKind.u64.bits q4 ||| BitVec.ofInt IntKind.u64.bits q5).toNat)), (13, .int .u64 (Int.fdiv q6 (2 ^ (min (Int.toNat 32) IntKind.u64.bits)))), (14, .int .u64 (IntKind.u64.wrap (BitVec.ofInt IntKind.u64.bits q6 &&& BitVec.ofInt IntKind.u64.bits 4294967295).toNat)), (15, .int .u64 q9), (16, .int .u64 rhat1)] [] Fr) ?_ ?_
     ·rcases Bool.eq_false_or_eq_true (decide (q9 ≥ 4294967296)) with hg1 | hg1
      ·refine o_skip hS rfl rfl rfl hg1 ?_; clear hS
       intro tm hS
       refine o_skip hS rfl rfl rfl hg1 ?_; clear hS
       intro tm hS
       refine o_skip hS rfl rfl rfl hg1 ?_; clear hS
       intro tm hS
       refine o_skip hS rfl rfl rfl hg1 ?_; clear hS
       intro tm hS
       refine o_skip hS rfl rfl rfl hg1 ?_; clear hS
       intro tm hS
       refine o_skip hS rfl rfl rfl hg1 ?_; clear hS
       intro tm hS
       refine o_skip hS rfl rfl rfl hg1 ?_; clear hS
       intro tm hS
       refine o_skip hS rfl rfl rfl hg1 ?_; clear hS
       intro tm hS
       refine o_pickT hS (.inl rfl) rfl rfl hg1 rfl ?_; clear hS
       intro tm hS
       have hc1 : c2 = true := hc1.trans (by rw [hg1]; first | rfl | simp)
       subst hc1
       exact o_nil (hS.keep (ka_cons rfl (ka_cons rfl (ka_cons rfl (ka_cons rfl (ka_cons rfl (ka_cons rfl (ka_cons rfl (ka_cons rfl (ka_cons rfl (ka_cons rfl ka_nil)))))))))) (fun hI => (hI.sub sn)))
      ·refine o_pure hS (.inr ⟨_, _, _, _, rfl, rfl, rfl, hg1⟩) rfl rfl ?_; clear hS
       intro tm hS
       refine o_pure hS (.inr ⟨_, _, _, _, rfl, rfl, rfl, hg1⟩) rfl rfl ?_; clear hS
       intro tm hS
       refine o_pure hS (.inr ⟨_, _, _, _, rfl, rfl, rfl, hg1⟩) rfl rfl ?_; clear hS
       intro tm hS
       refine o_pure hS (.inr ⟨_, _, _, _, rfl, rfl, rfl, hg1⟩) rfl rfl ?_; clear hS
       intro tm hS
       refine o_pure hS (.inr ⟨_, _, _, _, rfl, rfl, rfl, hg1⟩) rfl rfl ?_; clear hS
       intro tm hS
       refine o_pure hS (.inr ⟨_, _, _, _, rfl, rfl, rfl, hg1⟩) rfl rfl ?_; clear hS
       intro tm hS
       refine o_pure hS (.inr ⟨_, _, _, _, rfl, rfl, rfl, hg1⟩) rfl rfl ?_; clear hS
       intro tm hS
       refine o_pure hS (.inr ⟨_, _, _, _, rfl, rfl, rfl, hg1⟩) rfl rfl ?_; clear hS
       intro tm hS
       refine o_pickF hS (.inl rfl) rfl rfl hg1 rfl ?_; clear hS
       intro tm hS
       have hc1 : c2 = (decide ((IntKind.u64.wrap (q9 * (IntKind.u64.wrap (BitVec.ofInt IntKind.u64.bits q3 &&& BitVec.ofInt IntKind.u64.bits 4294967295).toNat))) > (IntKind.u64.wrap ((IntKind.u64.wrap (4294967296 * rhat1)) + (Int.fdiv q6 (2 ^ (min (Int.toNat 32) IntKind.u64.bits))))))) := hc1.trans (by rw [hg1]; first | rfl | simp)
       subst hc1
       exact o_nil (hS.keep (ka_cons rfl (ka_cons rfl (ka_cons rfl (ka_cons rfl (ka_cons rfl (ka_cons rfl (ka_cons rfl (ka_cons rfl (ka_cons rfl (ka_cons rfl ka_nil)))))))))) (fun hI => (hI.sub sn)))
     intro tm H hS
     subst hc1
     refine o_nil (hR _ _ ?_)
     clear hR R
     refine c_cond hS rfl (fun hc => ?_) (fun hc => ?_)
     ·replace h3 := iteT hc h3
      refine wpC.skip ?_
      refine wpC.block ?_
      refine c_reg fun R hR => ?_
      refine o_pure hS (.inl rfl) rfl rfl ?_; clear hS
      intro tm hS
      refine o_pure hS (.inl rfl) rfl rfl ?_; clear hS
      intro tm hS
      refine o_pure hS (.inl rfl) rfl rfl ?_; clear hS
      intro tm hS
      refine o_nil (hR _ _ ?_)
      clear hR R
      refine c_reg fun R hR => ?_
      refine o_pure hS (.inl rfl) rfl rfl ?_; clear hS
      intro tm hS
      refine o_pure hS (.inl rfl) rfl rfl ?_; clear hS
      intro tm hS
      refine o_pure hS (.inl rfl) rfl rfl ?_; clear hS
      intro tm hS
      refine o_pure hS (.inl rfl) rfl rfl ?_; clear hS
      intro tm hS
      refine o_nil (hR _ _ ?_)
      clear hR R
      refine c_reg fun R hR => ?_
      refine o_pure hS (.inl rfl) rfl rfl ?_; clear hS
      intro tm hS
      refine o_pure hS (.inl rfl) rfl rfl ?_; clear hS
      intro tm hS
      refine o_nil (hR _ _ ?_)
      clear hR R
      refine c_cond hS rfl (fun hc => ?_) (fun hc => ?_)
      ·replace h3 := iteT hc h3
       refine wpC.exit ?_
       refine blk_ne (id := 1) (i := 0) (by decide) ?_
       obtain rfl := Option.some.inj h3
       obtain rfl := hq3 _ rfl
       refine And.intro rfl (blk_eq ?_)
       replace h2 := joinN h2
       obtain rfl := Option.some.inj h2
       change S wm 135 _ _ _ _ Fr; exact hS.keep (ka_cons rfl (ka_cons rfl (ka_cons rfl (ka_cons rfl (ka_cons rfl (ka_cons rfl (ka_cons rfl (ka_cons rfl ka_nil)))))))) (fun hI => (hI.sub sn))
      ·replace h3 := iteF hc h3
       refine wpC.skip ?_
       obtain rfl := Option.some.inj h3
       refine ⟨_, rfl, ?_⟩
       change S wm 135 _ _ _ _ Fr; exact hS.keep (ka_cons rfl (ka_cons rfl (ka_cons rfl (ka_cons rfl (ka_cons rfl (ka_cons rfl (ka_cons rfl (ka_cons rfl (ka_cons rfl ka_nil))))))))) (fun hI => (hI.sub sn))
     ·replace h3 := iteF hc h3
      refine wpC.exit ?_
      refine seqX ?_
      obtain rfl := Option.some.inj h3
      obtain rfl := hq3 _ rfl
      refine And.intro rfl (blk_eq ?_)
      replace h2 := joinN h2
      obtain rfl := Option.some.inj h2
      change S wm 135 _ _ _ _ Fr; exact hS.keep (ka_cons rfl (ka_cons rfl (ka_cons rfl (ka_cons rfl (ka_cons rfl (ka_cons rfl (ka_cons rfl (ka_cons rfl ka_nil)))))))) (fun hI => (hI.sub sn))
    intro tm H hS
    change S wm 135 tm H [(2, .int .u64 q3), (8, .int .u64 (IntKind.u64.wrap r1)), (9, .int .u64 (Int.fdiv q3 (2 ^ (min (Int.toNat 32) IntKind.u64.bits)))), (10, .int .u64 (IntKind.u64.wrap (BitVec.ofInt IntKind.u64.bits q3 &&& BitVec.ofInt IntKind.u64.bits 4294967295).toNat)), (11, .int .u64 (IntKind.u64.wrap (BitVec.ofInt IntKind.u64.bits q4 ||| BitVec.ofInt IntKind.u64.bits q5).toNat)), (13, .int .u64 (Int.fdiv q6 (2 ^ (min (Int.toNat 32) IntKind.u64.bits)))), (14, .int .u64 (IntKind.u64.wrap (BitVec.ofInt IntKind.u64.bits q6 &&& BitVec.ofInt IntKind.u64.bits 4294967295).toNat)), (15, .int .u64 q8)] [] Fr at hS
    refine c_reg fun R hR => ?_
    refine o_pure hS (.inl rfl) rfl rfl ?_; clear hS
    intro tm hS
    refine o_pure hS (.inl rfl) rfl rfl ?_; clear hS
    intro tm hS
    refine o_pure hS (.inl rfl) rfl rfl ?_; clear hS
    intro tm hS
    refine o_pure hS (.inl rfl) rfl rfl ?_; clear hS
    intro tm hS
    refine o_pure hS (.inl rfl) rfl rfl ?_; clear hS
    intro tm hS
    refine o_pure hS (.inl rfl) rfl rfl ?_; clear hS
    intro tm hS
    refine o_pure hS (.inl rfl) rfl rfl ?_; clear hS
    intro tm hS
    refine o_pure hS (.inl rfl) rfl rfl ?_; clear hS
    intro tm hS
    refine o_pure hS (.inl rfl) rfl rfl ?_; clear hS
    intro tm hS
    refine o_nil (hR _ _ ?_)
    clear hR R
    refine c_reg fun R hR => ?_
    refine o_pure hS (.inl rfl) rfl rfl ?_; clear hS
    intro tm hS
    refine o_pure hS (.inl rfl) rfl rfl ?_; clear hS
    intro tm hS
    obtain ⟨q10, hx9, h0⟩ := bindS h0
    refine o_quo hS (.inl rfl) rfl rfl rfl hx9 ?_; clear hS
    intro tm hS
    refine o_pure hS (.inl rfl) rfl rfl ?_; clear hS
    intro tm hS
    refine o_nil (hR _ _ ?_)
    clear hR R
    refine c_reg fun R hR => ?_
    refine o_pure hS (.inl rfl) rfl rfl ?_; clear hS
    intro tm hS
    refine o_pure hS (.inl rfl) rfl rfl ?_; clear hS
    intro tm hS
    refine o_pure hS (.inl rfl) rfl rfl ?_; clear hS
    intro tm hS
    refine o_pure hS (.inl rfl) rfl rfl ?_; clear hS
    intro tm hS
    refine o_pure hS (.inl rfl) rfl rfl ?_; clear hS
    intro tm hS
    refine o_pure hS (.inl rfl) rfl rfl ?_; clear hS
    intro tm hS
    refine o_nil (hR _ _ ?_)
    clear hR R
    obtain ⟨q11, h5, h0⟩ := bindS h0
    refine c_seqJ (J := fun tm H => (match (generalizing := false) q11 with | q11 => S wm 135 tm H [(2, .int .u64 q3), (8, .int .u64 (IntKind.u64.wrap r1)), (14, .int .u64 (IntKind.u64.wrap (BitVec.ofInt IntKind.u64.bits q6 &&& BitVec.ofInt IntKind.u64.bits 4294967295).toNat)), (15, .int .u64 q8), (17, .int .u64 (IntKind.u64.wrap ((IntKind.u64.wrap ((IntKind.u64.wrap ((IntKind.u64.wrap (BitVec.ofInt IntKind.u64.bits q4 ||| BitVec.ofInt IntKind.u64.bits q5).toNat) * 4294967296)) + (Int.fdiv q6 (2 ^ (min (Int.toNat 32) IntKind.u64.bits))))) - (IntKind.u64.wrap (q8 * q3))))), (18, .int .u64 q11)] [] Fr)) ?_ ?_
    ·obtain ⟨k2, hw2, h5⟩ := bindS h5
     refine wpC.block ?_
     refine c_loop (I := fun (s : Int × Int) tm H => match (generalizing := false) s with | (rhat2, q12) => S wm 135 tm H [(2, .int .u64 q3), (8, .int .u64 (IntKind.u64.wrap r1)), (9, .int .u64 (Int.fdiv q3 (2 ^ (min (Int.toNat 32) IntKind.u64.bits)))), (10, .int .u64 (IntKind.u64.wrap (BitVec.ofInt IntKind.u64.bits q3 &&& BitVec.ofInt IntKind.u64.bits 4294967295).toNat)), (14, .int .u64 (IntKind.u64.wrap (BitVec.ofInt IntKind.u64.bits q6 &&& BitVec.ofInt IntKind.u64.bits 4294967295).toNat)), (15, .int .u64 q8), (16, .int .u64 rhat2), (17, .int .u64 (IntKind.u64.wrap ((IntKind.u64.wrap ((IntKind.u64.wrap ((IntKind.u64.wrap (BitVec.ofInt IntKind.u64.bits q4 ||| BitVec.ofInt IntKind.u64.bits q5).toNat) * 4294967296)) + (Int.fdiv q6 (2 ^ (min (Int.toNat 32) IntKind.u64.bits))))) - (IntKind.u64.wrap (q8 * q3))))), (18, .int .u64 q12)] [] Fr) hw2 (by change S wm 135 _ _ _ _ Fr; exact hS.keep (ka_cons rfl (ka_cons rfl (ka_cons rfl (ka_cons rfl (ka_cons rfl (ka_cons rfl (ka_cons rfl (ka_cons rfl (ka_cons rfl ka_nil))))))))) (fun hI => (hI.sub sn))) ?_
     clear hS
     intro s2 tm H c3 hS h6 hq6
     obtain ⟨rhat2, q12⟩ := s2
     change S wm 135 tm H [(2, .int .u64 q3), (8, .int .u64 (IntKind.u64.wrap r1)), (9, .int .u64 (Int.fdiv q3 (2 ^ (min (Int.toNat 32) IntKind.u64.bits)))), (10, .int .u64 (IntKind.u64.wrap (BitVec.ofInt IntKind.u64.bits q3 &&& BitVec.ofInt IntKind.u64.bits 4294967295).toNat)), (14, .int .u64 (IntKind.u64.wrap (BitVec.ofInt IntKind.u64.bits q6 &&& BitVec.ofInt IntKind.u64.bits 4294967295).toNat)), (15, .int .u64 q8), (16, .int .u64 rhat2), (17, .int .u64 (IntKind.u64.wrap ((IntKind.u64.wrap ((IntKind.u64.wrap ((IntKind.u64.wrap (BitVec.ofInt IntKind.u64.bits q4 ||| BitVec.ofInt IntKind.u64.bits q5).toNat) * 4294967296)) + (Int.fdiv q6 (2 ^ (min (Int.toNat 32) IntKind.u64.bits))))) - (IntKind.u64.wrap (q8 * q3))))), (18, .int .u64 q12)] [] Fr at hS
     refine c_seqS ?_
     refine c_reg fun R hR => ?_
     refine o_pure hS (.inl rfl) rfl rfl ?_; clear hS
     intro tm hS
     refine o_pure hS (.inl rfl) rfl rfl ?_; clear hS
     intro tm hS
     refine o_pure hS (.inl rfl) rfl rfl ?_; clear hS
     intro tm hS
     obtain ⟨c4, hc2⟩ : ∃ x : Bool, x = ((decide (q12 ≥ 4294967296)) || (decide ((IntKind.u64.wrap (q12 * (IntKind.u64.wrap (BitVec.ofInt IntKind.u64.bits q3 &&& BitVec.ofInt IntKind.u64.bits 4294967295).toNat))) > (IntKind.u64.wrap ((IntKind.u64.wrap (4294967296 * rhat2)) + (IntKind.u64.wrap (BitVec.ofInt IntKind.u64.bits q6 &&& BitVec.ofInt IntKind.u64.bits 4294967295).toNat)))))) := ⟨_, rfl⟩
     refine o_cutN 9 (J := fun tm H => S wm 135 tm H [(113, .bool c4), (2, .int .u64 q3), (8, .int .u64 (IntKind.u64.wrap r1)), (9, .int .u64 (Int.fdiv q3 (2 ^ (min (Int.toNat 32) IntKind.u64.bits)))), (10, .int .u64 (IntKind.u64.wrap (BitVec.ofInt IntKind.u64.bits q3 &&& BitVec.ofInt IntKind.u64.bits 4294967295).toNat)), (14, .int .u64 (IntKind.u64.wrap (BitVec.ofInt IntKind.u64.bits q6 &&& BitVec.ofInt IntKind.u64.bits 4294967295).toNat)), (15, .int .u64 q8), (16, .int .u64 rhat2), (17, .int .u64 (IntKind.u64.wrap ((IntKind.u64.wrap ((IntKind.u64.wrap ((IntKind.u64.wrap (BitVec.ofInt IntKind.u64.bits q4 ||| BitVec.ofInt IntKind.u64.bits q5).toNat) * 4294967296)) + (Int.fdiv q6 (2 ^ (min (Int.toNat 32) IntKind.u64.bits))))) - (IntKind.u64.wrap (q8 * q3))))), (18, .int .u64 q12)] [] Fr) ?_ ?_
     ·rcases Bool.eq_false_or_eq_true (decide (q12 ≥ 4294967296)) with hg2 | hg2
      ·refine o_skip hS rfl rfl rfl hg2 ?_; clear hS
       intro tm hS
       refine o_skip hS rfl rfl rfl hg2 ?_; clear hS
       intro tm hS
       refine o_skip hS rfl rfl rfl hg2 ?_; clear hS
       intro tm hS
       refine o_skip hS rfl rfl rfl hg2 ?_; clear hS
       intro tm hS
       refine o_skip hS rfl rfl rfl hg2 ?_; clear hS
       intro tm hS
       refine o_skip hS rfl rfl rfl hg2 ?_; clear hS
       intro tm hS
       refine o_skip hS rfl rfl rfl hg2 ?_; clear hS
       intro tm hS
       refine o_skip hS rfl rfl rfl hg2 ?_; clear hS
       intro tm hS
       refine o_pickT hS (.inl rfl) rfl rfl hg2 rfl ?_; clear hS
       intro tm hS
       have hc2 : c4 = true := hc2.trans (by rw [hg2]; first | rfl | simp)
       subst hc2
       exact o_nil (hS.keep (ka_cons rfl (ka_cons rfl (ka_cons rfl (ka_cons rfl (ka_cons rfl (ka_cons rfl (ka_cons rfl (ka_cons rfl (ka_cons rfl (ka_cons rfl ka_nil)))))))))) (fun hI => (hI.sub sn)))
      ·refine o_pure hS (.inr ⟨_, _, _, _, rfl, rfl, rfl, hg2⟩) rfl rfl ?_; clear hS
       intro tm hS
       refine o_pure hS (.inr ⟨_, _, _, _, rfl, rfl, rfl, hg2⟩) rfl rfl ?_; clear hS
       intro tm hS
       refine o_pure hS (.inr ⟨_, _, _, _, rfl, rfl, rfl, hg2⟩) rfl rfl ?_; clear hS
       intro tm hS
       refine o_pure hS (.inr ⟨_, _, _, _, rfl, rfl, rfl, hg2⟩) rfl rfl ?_; clear hS
       intro tm hS
       refine o_pure hS (.inr ⟨_, _, _, _, rfl, rfl, rfl, hg2⟩) rfl rfl ?_; clear hS
       intro tm hS
       refine o_pure hS (.inr ⟨_, _, _, _, rfl, rfl, rfl, hg2⟩) rfl rfl ?_; clear hS
       intro tm hS
       refine o_pure hS (.inr ⟨_, _, _, _, rfl, rfl, rfl, hg2⟩) rfl rfl ?_; clear hS
       intro tm hS
       refine o_pure hS (.inr ⟨_, _, _, _, rfl, rfl, rfl, hg2⟩) rfl rfl ?_; clear hS
       intro tm hS
       refine o_pickF hS (.inl rfl) rfl rfl hg2 rfl ?_; clear hS
       intro tm hS
       have hc2 : c4 = (decide ((IntKind.u64.wrap (q12 * (IntKind.u64.wrap (BitVec.ofInt IntKind.u64.bits q3 &&& BitVec.ofInt IntKind.u64.bits 4294967295).toNat))) > (IntKind.u64.wrap ((IntKind.u64.wrap (4294967296 * rhat2)) + (IntKind.u64.wrap (BitVec.ofInt IntKind.u64.bits q6 &&& BitVec.ofInt IntKind.u64.bits 4294967295).toNat))))) := hc2.trans (by rw [hg2]; first | rfl | simp)
       subst hc2
       exact o_nil (hS.keep (ka_cons rfl (ka_cons rfl (ka_cons rfl (ka_cons rfl (ka_cons rfl (ka_cons rfl (ka_cons rfl (ka_cons rfl (ka_cons rfl (ka_cons rfl ka_nil)))))))))) (fun hI => (hI.sub sn)))
     intro tm H hS
     subst hc2
     refine o_nil (hR _ _ ?_)
     clear hR R
     refine c_cond hS rfl (fun hc => ?_) (fun hc => ?_)
     ·replace h6 := iteT hc h6
      refine wpC.skip ?_
      refine wpC.block ?_
      refine c_reg fun R hR => ?_
      refine o_pure hS (.inl rfl) rfl rfl ?_; clear hS
      intro tm hS
      refine o_pure hS (.inl rfl) rfl rfl ?_; clear hS
      intro tm hS
      refine o_pure hS (.inl rfl) rfl rfl ?_; clear hS
      intro tm hS
      refine o_nil (hR _ _ ?_)
      clear hR R
      refine c_reg fun R hR => ?_
      refine o_pure hS (.inl rfl) rfl rfl ?_; clear hS
      intro tm hS
      refine o_pure hS (.inl rfl) rfl rfl ?_; clear hS
      intro tm hS
      refine o_pure hS (.inl rfl) rfl rfl ?_; clear hS
      intro tm hS
      refine o_pure hS (.inl rfl) rfl rfl ?_; clear hS
      intro tm hS
      refine o_nil (hR _ _ ?_)
      clear hR R
      refine c_reg fun R hR => ?_
      refine o_pure hS (.inl rfl) rfl rfl ?_; clear hS
      intro tm hS
      refine o_pure hS (.inl rfl) rfl rfl ?_; clear hS
      intro tm hS
      refine o_nil (hR _ _ ?_)
      clear hR R
      refine c_cond hS rfl (fun hc => ?_) (fun hc => ?_)
      ·replace h6 := iteT hc h6
       refine wpC.exit ?_
       refine blk_ne (id := 3) (i := 2) (by decide) ?_
       obtain rfl := Option.some.inj h6
       obtain rfl := hq6 _ rfl
       refine And.intro rfl (blk_eq ?_)
       replace h5 := joinN h5
       obtain rfl := Option.some.inj h5
       change S wm 135 _ _ _ _ Fr; exact hS.keep (ka_cons rfl (ka_cons rfl (ka_cons rfl (ka_cons rfl (ka_cons rfl (ka_cons rfl ka_nil)))))) (fun hI => (hI.sub sn))
      ·replace h6 := iteF hc h6
       refine wpC.skip ?_
       obtain rfl := Option.some.inj h6
       refine ⟨_, rfl, ?_⟩
       change S wm 135 _ _ _ _ Fr; exact hS.keep (ka_cons rfl (ka_cons rfl (ka_cons rfl (ka_cons rfl (ka_cons rfl (ka_cons rfl (ka_cons rfl (ka_cons rfl (ka_cons rfl ka_nil))))))))) (fun hI => (hI.sub sn))
     ·replace h6 := iteF hc h6
      refine wpC.exit ?_
      refine seqX ?_
      obtain rfl := Option.some.inj h6
      obtain rfl := hq6 _ rfl
      refine And.intro rfl (blk_eq ?_)
      replace h5 := joinN h5
      obtain rfl := Option.some.inj h5
      change S wm 135 _ _ _ _ Fr; exact hS.keep (ka_cons rfl (ka_cons rfl (ka_cons rfl (ka_cons rfl (ka_cons rfl (ka_cons rfl ka_nil)))))) (fun hI => (hI.sub sn))
    intro tm H hS
    change S wm 135 tm H [(2, .int .u64 q3), (8, .int .u64 (IntKind.u64.wrap r1)), (14, .int .u64 (IntKind.u64.wrap (BitVec.ofInt IntKind.u64.bits q6 &&& BitVec.ofInt IntKind.u64.bits 4294967295).toNat)), (15, .int .u64 q8), (17, .int .u64 (IntKind.u64.wrap ((IntKind.u64.wrap ((IntKind.u64.wrap ((IntKind.u64.wrap (BitVec.ofInt IntKind.u64.bits q4 ||| BitVec.ofInt IntKind.u64.bits q5).toNat) * 4294967296)) + (Int.fdiv q6 (2 ^ (min (Int.toNat 32) IntKind.u64.bits))))) - (IntKind.u64.wrap (q8 * q3))))), (18, .int .u64 q11)] [] Fr at hS
    refine c_reg fun R hR => ?_
    refine o_pure hS (.inl rfl) rfl rfl ?_; clear hS
    intro tm hS
    refine o_pure hS (.inl rfl) rfl rfl ?_; clear hS
    intro tm hS
    refine o_pure hS (.inl rfl) rfl rfl ?_; clear hS
    intro tm hS
    refine o_pure hS (.inl rfl) rfl rfl ?_; clear hS
    intro tm hS
    refine o_pure hS (.inl rfl) rfl rfl ?_; clear hS
    intro tm hS
    refine o_pure hS (.inl rfl) rfl rfl ?_; clear hS
    intro tm hS
    refine o_pure hS (.inl rfl) rfl rfl ?_; clear hS
    intro tm hS
    refine o_pure hS (.inl rfl) rfl rfl ?_; clear hS
    intro tm hS
    refine o_pure hS (.inl rfl) rfl rfl ?_; clear hS
    intro tm hS
    refine o_pure hS (.inl rfl) rfl rfl ?_; clear hS
    intro tm hS
    refine o_pure hS (.inl rfl) rfl rfl ?_; clear hS
    intro tm hS
    refine o_pure hS (.inl rfl) rfl rfl ?_; clear hS
    intro tm hS
    refine o_pure hS (.inl rfl) rfl rfl ?_; clear hS
    intro tm hS
    obtain ⟨q13, hx10, h0⟩ := bindS h0
    refine o_shr hS (.inl rfl) rfl rfl rfl hx10 ?_; clear hS
    intro tm hS
    refine o_pure hS (.inl rfl) rfl rfl ?_; clear hS
    intro tm hS
    refine o_pure hS (.inl rfl) rfl rfl ?_; clear hS
    intro tm hS
    refine o_nil (hR _ _ ?_)
    clear hR R
    refine wpC.ret ?_
    obtain rfl := Option.some.inj h0
    refine Exists.intro _ (And.intro (rs_tmp hS rfl (rs_tmp hS rfl rs_nil)) ?_)
    have hI := hS.inv
    exact ⟨rfl, (hI.sub sn)⟩
theorem wk90 {wm : Nat} {H : AHeap} {Fr : List Ent}  (a1 : Int) (b1 : Int)   (hI : Kn wm H [] Fr) {r : Int × Bool} (h0 : M.ints_choose a1 b1 = some r) :
  wpF Try.prog ora wm 90 [.int .i64 a1, .int .i64 b1] H (fun res H => res = .tuple #[.int .i64 r.1, .bool r.2] ∧ Kn wm H [] Fr) := by
 unfold M.ints_choose at h0
 refine f_enter (n := 53) Try.func90 rfl (by simp) hI rfl rfl rfl fun tm hS => ?_
 clear hI
 refine c_reg fun R hR => ?_
 refine o_pure hS (.inl rfl) rfl rfl ?_; clear hS
 intro tm hS
 refine o_pure hS (.inl rfl) rfl rfl ?_; clear hS
 intro tm hS
 refine o_nil (hR _ _ ?_)
 clear hR R
 refine c_seqS ?_
 refine c_reg fun R hR => ?_
 refine o_pure hS (.inl rfl) rfl rfl ?_; clear hS
 intro tm hS
 refine o_pure hS (.inl rfl) rfl rfl ?_; clear hS
 intro tm hS
 refine o_pure hS (.inl rfl) rfl rfl ?_; clear hS
 intro tm hS
 obtain ⟨c1, hc1⟩ : ∃ x : Bool, x = ((decide (a1 < 0)) || (decide (b1 < 0))) := ⟨_, rfl⟩
 refine o_cutN 3 (J := fun tm H => S wm 53 tm H [(15, .bool c1), (0, .int .i64 a1), (1, .int .i64 b1)] [] Fr) ?_ ?_
 ·rcases Bool.eq_false_or_eq_true (decide (a1 < 0)) with hg1 | hg1
  ·refine o_skip hS rfl rfl rfl hg1 ?_; clear hS
   intro tm hS
   refine o_skip hS rfl rfl rfl hg1 ?_; clear hS
   intro tm hS
   refine o_pickT hS (.inl rfl) rfl rfl hg1 rfl ?_; clear hS
   intro tm hS
   have hc1 : c1 = true := hc1.trans (by rw [hg1]; first | rfl | simp)
   subst hc1
   exact o_nil (hS.keep (ka_cons rfl (ka_cons rfl (ka_cons rfl ka_nil))) (fun hI => (hI.sub sn)))
  ·refine o_pure hS (.inr ⟨_, _, _, _, rfl, rfl, rfl, hg1⟩) rfl rfl ?_; clear hS
   intro tm hS
   refine o_pure hS (.inr ⟨_, _, _, _, rfl, rfl, rfl, hg1⟩) rfl rfl ?_; clear hS
   intro tm hS
   refine o_pickF hS (.inl rfl) rfl rfl hg1 rfl ?_; clear hS
   intro tm hS
   have hc1 : c1 = (decide (b1 < 0)) := hc1.trans (by rw [hg1]; first | rfl | simp)
   subst hc1
   exact o_nil (hS.keep (ka_cons rfl (ka_cons rfl (ka_cons rfl ka_nil))) (fun hI => (hI.sub sn)))
 intro tm H hS
 subst hc1
 refine o_nil (hR _ _ ?_)
 clear hR R
 refine c_cond hS rfl (fun hc => ?_) (fun hc => ?_)
 ·replace h0 := iteT hc h0
  refine c_reg fun R hR => ?_
  refine o_pure hS (.inl rfl) rfl rfl ?_; clear hS
  intro tm hS
  refine o_pure hS (.inl rfl) rfl rfl ?_; clear hS
  intro tm hS
  refine o_nil (hR _ _ ?_)
  clear hR R
  refine wpC.ret ?_
  obtain rfl := Option.some.inj h0
  refine Exists.intro _ (And.intro (rs_tmp hS rfl (rs_tmp hS rfl rs_nil)) ?_)
  have hI := hS.inv
  exact ⟨rfl, (hI.sub sn)⟩
 ·replace h0 := iteF hc h0
  refine wpC.skip ?_
  refine c_seqS ?_
  refine c_reg fun R hR => ?_
  refine o_pure hS (.inl rfl) rfl rfl ?_; clear hS
  intro tm hS
  refine o_pure hS (.inl rfl) rfl rfl ?_; clear hS
  intro tm hS
  refine o_pure hS (.inl rfl) rfl rfl ?_; clear hS
  intro tm hS
  refine o_nil (hR _ _ ?_)
  clear hR R
  refine c_cond hS rfl (fun hc => ?_) (fun hc => ?_)
  ·replace h0 := iteT hc h0
   refine c_reg fun R hR => ?_
   refine o_pure hS (.inl rfl) rfl rfl ?_; clear hS
   intro tm hS
   refine o_pure hS (.inl rfl) rfl rfl ?_; clear hS
   intro tm hS
   refine o_nil (hR _ _ ?_)
   clear hR R
   refine wpC.ret ?_
   obtain rfl := Option.some.inj h0
   refine Exists.intro _ (And.intro (rs_tmp hS rfl (rs_tmp hS rfl rs_nil)) ?_)
   have hI := hS.inv
   exact ⟨rfl, (hI.sub sn)⟩
  ·replace h0 := iteF hc h0
   refine wpC.skip ?_
   refine c_reg fun R hR => ?_
   refine o_pure hS (.inl rfl) rfl rfl ?_; clear hS
   intro tm hS
   refine o_nil (hR _ _ ?_)
   clear hR R
   refine c_seqS ?_
   refine c_reg fun R hR => ?_
   refine o_pure hS (.inl rfl) rfl rfl ?_; clear hS
   intro tm hS
   refine o_pure hS (.inl rfl) rfl rfl ?_; clear hS
   intro tm hS
   refine o_pure hS (.inl rfl) rfl rfl ?_; clear hS
   intro tm hS
   refine o_pure hS (.inl rfl) rfl rfl ?_; clear hS
   intro tm hS
   refine o_pure hS (.inl rfl) rfl rfl ?_; clear hS
   intro tm hS
   refine o_pure hS (.inl rfl) rfl rfl ?_; clear hS
   intro tm hS
   refine o_pure hS (.inl rfl) rfl rfl ?_; clear hS
   intro tm hS
   refine o_nil (hR _ _ ?_)
   clear hR R
   obtain ⟨k1, hw1, h0⟩ := bindS h0
   refine wpC.block ?_
   refine c_loop (I := fun (s : Int × Int) tm H => match (generalizing := false) s with | (c2, t1) => S wm 53 tm H [(1, .int .i64 b1), (6, .int .u64 c2), (24, .int .u64 (IntKind.u64.wrap (if (IntKind.i64.wrap (b1 - a1)) < a1 then (IntKind.i64.wrap (b1 - a1)) else a1))), (25, .int .u64 t1)] [] Fr) hw1 (by change S wm 53 _ _ _ _ Fr; exact hS.keep (ka_cons rfl (ka_cons rfl (ka_cons rfl (ka_cons rfl ka_nil)))) (fun hI => (hI.sub sn))) ?_
   clear hS
   intro s1 tm H c3 hS h1 hq1
   obtain ⟨c2, t1⟩ := s1
   change S wm 53 tm H [(1, .int .i64 b1), (6, .int .u64 c2), (24, .int .u64 (IntKind.u64.wrap (if (IntKind.i64.wrap (b1 - a1)) < a1 then (IntKind.i64.wrap (b1 - a1)) else a1))), (25, .int .u64 t1)] [] Fr at hS
   refine c_reg fun R hR => ?_
   refine o_pure hS (.inl rfl) rfl rfl ?_; clear hS
   intro tm hS
   refine o_nil (hR _ _ ?_)
   clear hR R
   refine c_seqS ?_
   refine c_cond hS rfl (fun hc => ?_) (fun hc => ?_)
   ·replace h1 := iteT hc h1
    refine wpC.skip ?_
    refine c_seqS ?_
    refine wpC.block ?_
    refine c_reg fun R hR => ?_
    refine o_pure hS (.inl rfl) rfl rfl ?_; clear hS
    intro tm hS
    refine o_pure hS (.inl rfl) rfl rfl ?_; clear hS
    intro tm hS
    refine o_nil (hR _ _ ?_)
    clear hR R
    refine c_reg fun R hR => ?_
    refine o_pure hS (.inl rfl) rfl rfl ?_; clear hS
    intro tm hS
    refine o_pure hS (.inl rfl) rfl rfl ?_; clear hS
    intro tm hS
    refine o_pure hS (.inl rfl) rfl rfl ?_; clear hS
    intro tm hS
    refine o_pure hS (.inl rfl) rfl rfl ?_; clear hS
    intro tm hS
    refine o_pure hS (.inl rfl) rfl rfl ?_; clear hS
    intro tm hS
    obtain ⟨⟨r1, r2⟩, hx1, h1⟩ := bindS h1
    refine o_call hS (.inl rfl) rfl (fun wm' hw1 hw2 => wk127  c2 (IntKind.u64.wrap ((IntKind.u64.wrap b1) - t1))   (hS.sel hw2) hx1) (fun wm' res H hw' hp => ?_)
    obtain ⟨hres, hI⟩ := hp
    replace hres := hres.symm; subst hres
    replace hS : S wm 53 _ H ((34, .tuple #[.int .u64 r1, .int .u64 r2]) :: _) ([] ++ _) Fr := hS.after rfl hw' hI
    clear hI hw'
    refine o_pure hS (.inl rfl) rfl rfl ?_; clear hS
    intro tm hS
    refine o_pure hS (.inl rfl) rfl rfl ?_; clear hS
    intro tm hS
    refine o_pure hS (.inl rfl) rfl rfl ?_; clear hS
    intro tm hS
    refine o_pure hS (.inl rfl) rfl rfl ?_; clear hS
    intro tm hS
    refine o_pure hS (.inl rfl) rfl rfl ?_; clear hS
    intro tm hS
    refine o_nil (hR _ _ ?_)
    clear hR R
    refine c_seqS ?_
    refine c_reg fun R hR => ?_
    refine o_pure hS (.inl rfl) rfl rfl ?_; clear hS
    intro tm hS
    refine o_pure hS (.inl rfl) rfl rfl ?_; clear hS
    intro tm hS
    refine o_pure hS (.inl rfl) rfl rfl ?_; clear hS
    intro tm hS
    refine o_nil (hR _ _ ?_)
    clear hR R
    refine c_cond hS rfl (fun hc => ?_) (fun hc => ?_)
    ·replace h1 := iteT hc h1
     refine c_reg fun R hR => ?_
     refine o_pure hS (.inl rfl) rfl rfl ?_; clear hS
     intro tm hS
     refine o_pure hS (.inl rfl) rfl rfl ?_; clear hS
     intro tm hS
     refine o_nil (hR _ _ ?_)
     clear hR R
     refine wpC.ret ?_
     obtain rfl := Option.some.inj h1
     obtain rfl := hq1 _ rfl
     refine And.intro rfl ?_
     obtain rfl := leave h0
     refine Exists.intro _ (And.intro (rs_tmp hS rfl (rs_tmp hS rfl rs_nil)) ?_)
     have hI := hS.inv
     exact ⟨rfl, (hI.sub sn)⟩
    ·replace h1 := iteF hc h1
     refine wpC.skip ?_
     refine c_reg fun R hR => ?_
     refine o_pure hS (.inl rfl) rfl rfl ?_; clear hS
     intro tm hS
     refine o_pure hS (.inl rfl) rfl rfl ?_; clear hS
     intro tm hS
     refine o_pure hS (.inl rfl) rfl rfl ?_; clear hS
     intro tm hS
     refine o_pure hS (.inl rfl) rfl rfl ?_; clear hS
     intro tm hS
     obtain ⟨⟨r3, r4⟩, hx2, h1⟩ := bindS h1
     refine o_call hS (.inl rfl) rfl (fun wm' hw1 hw2 => wk129  r1 r2 (IntKind.u64.wrap (t1 + 1))   (hS.sel hw2) hx2) (fun wm' res H hw' hp => ?_)
     obtain ⟨hres, hI⟩ := hp
     replace hres := hres.symm; subst hres
     replace hS : S wm 53 _ H ((45, .tuple #[.int .u64 r3, .int .u64 r4]) :: _) ([] ++ _) Fr := hS.after rfl hw' hI
     clear hI hw'
     refine o_pure hS (.inl rfl) rfl rfl ?_; clear hS
     intro tm hS
     refine o_pure hS (.inl rfl) rfl rfl ?_; clear hS
     intro tm hS
     refine o_pure hS (.inl rfl) rfl rfl ?_; clear hS
     intro tm hS
     refine o_pure hS (.inl rfl) rfl rfl ?_; clear hS
     intro tm hS
     refine o_nil (hR _ _ ?_)
     clear hR R
     refine c_reg fun R hR => ?_
     refine o_pure hS (.inl rfl) rfl rfl ?_; clear hS
     intro tm hS
     refine o_pure hS (.inl rfl) rfl rfl ?_; clear hS
     intro tm hS
     refine o_nil (hR _ _ ?_)
     clear hR R
     refine c_cond hS rfl (fun hc => ?_) (fun hc => ?_)
     ·replace h1 := iteT hc h1
      refine c_reg fun R hR => ?_
      refine o_pure hS (.inl rfl) rfl rfl ?_; clear hS
      intro tm hS
      refine o_pure hS (.inl rfl) rfl rfl ?_; clear hS
      intro tm hS
      refine o_nil (hR _ _ ?_)
      clear hR R
      refine wpC.ret ?_
      obtain rfl := Option.some.inj h1
      obtain rfl := hq1 _ rfl
      refine And.intro rfl ?_
      obtain rfl := leave h0
      refine Exists.intro _ (And.intro (rs_tmp hS rfl (rs_tmp hS rfl rs_nil)) ?_)
      have hI := hS.inv
      exact ⟨rfl, (hI.sub sn)⟩
     ·replace h1 := iteF hc h1
      refine wpC.skip ?_
      refine c_reg1 fun R hR => ?_
      refine o_pure hS (.inl rfl) rfl rfl ?_; clear hS
      intro tm hS
      refine o_pure hS (.inl rfl) rfl rfl ?_; clear hS
      intro tm hS
      refine o_nil (hR _ _ ?_)
      clear hR R
      obtain rfl := Option.some.inj h1
      refine ⟨_, rfl, ?_⟩
      change S wm 53 _ _ _ _ Fr; exact hS.keep (ka_cons rfl (ka_cons rfl (ka_cons rfl (ka_cons rfl ka_nil)))) (fun hI => (hI.sub sn))
   ·replace h1 := iteF hc h1
    refine wpC.exit ?_
    refine seqX ?_
    obtain rfl := Option.some.inj h1
    obtain rfl := hq1 _ rfl
    refine And.intro rfl (blk_eq ?_)
    replace h0 := joinN h0
    refine c_reg fun R hR => ?_
    refine o_pure hS (.inl rfl) rfl rfl ?_; clear hS
    intro tm hS
    refine o_pure hS (.inl rfl) rfl rfl ?_; clear hS
    intro tm hS
    refine o_pure hS (.inl rfl) rfl rfl ?_; clear hS
    intro tm hS
    refine o_pure hS (.inl rfl) rfl rfl ?_; clear hS
    intro tm hS
    refine o_nil (hR _ _ ?_)
    clear hR R
    refine wpC.ret ?_
    obtain rfl := Option.some.inj h0
    refine Exists.intro _ (And.intro (rs_tmp hS rfl (rs_tmp hS rfl rs_nil)) ?_)
    have hI := hS.inv
    exact ⟨rfl, (hI.sub sn)⟩
theorem wk91 {wm : Nat} {H : AHeap} {Fr : List Ent}  (a1 : Int) (b1 : Int)   (hI : Kn wm H [] Fr) {r : Int × Bool} (h0 : M.ints_dyads_1 a1 b1 = some r) :
  wpF Try.prog ora wm 91 [.int .i64 a1, .int .i64 b1] H (fun res H => res = .tuple #[.int .i64 r.1, .bool r.2] ∧ Kn wm H [] Fr) := by
 unfold M.ints_dyads_1 at h0
 refine f_enter (n := 9) Try.func91 rfl (by simp) hI rfl rfl rfl fun tm hS => ?_
 clear hI
 refine c_reg fun R hR => ?_
 refine o_pure hS (.inl rfl) rfl rfl ?_; clear hS
 intro tm hS
 refine o_pure hS (.inl rfl) rfl rfl ?_; clear hS
 intro tm hS
 refine o_nil (hR _ _ ?_)
 clear hR R
 refine c_reg fun R hR => ?_
 refine o_pure hS (.inl rfl) rfl rfl ?_; clear hS
 intro tm hS
 refine o_pure hS (.inl rfl) rfl rfl ?_; clear hS
 intro tm hS
 refine o_pure hS (.inl rfl) rfl rfl ?_; clear hS
 intro tm hS
 refine o_pure hS (.inl rfl) rfl rfl ?_; clear hS
 intro tm hS
 refine o_pure hS (.inl rfl) rfl rfl ?_; clear hS
 intro tm hS
 refine o_nil (hR _ _ ?_)
 clear hR R
 refine wpC.ret ?_
 obtain rfl := Option.some.inj h0
 refine Exists.intro _ (And.intro (rs_tmp hS rfl (rs_tmp hS rfl rs_nil)) ?_)
 have hI := hS.inv
 exact ⟨rfl, (hI.sub sn)⟩
theorem wk92 {wm : Nat} {H : AHeap} {Fr : List Ent}  (a1 : Int) (b1 : Int)   (hI : Kn wm H [] Fr) {r : Int × Bool} (h0 : M.ints_dyads_2 a1 b1 = some r) :
  wpF Try.prog ora wm 92 [.int .i64 a1, .int .i64 b1] H (fun res H => res = .tuple #[.int .i64 r.1, .bool r.2] ∧ Kn wm H [] Fr) := by
 unfold M.ints_dyads_2 at h0
 refine f_enter (n := 9) Try.func92 rfl (by simp) hI rfl rfl rfl fun tm hS => ?_
 clear hI
 refine c_reg fun R hR => ?_
 refine o_pure hS (.inl rfl) rfl rfl ?_; clear hS
 intro tm hS
 refine o_pure hS (.inl rfl) rfl rfl ?_; clear hS
 intro tm hS
 refine o_nil (hR _ _ ?_)
 clear hR R
 refine c_reg fun R hR => ?_
 refine o_pure hS (.inl rfl) rfl rfl ?_; clear hS
 intro tm hS
 refine o_pure hS (.inl rfl) rfl rfl ?_; clear hS
 intro tm hS
 refine o_pure hS (.inl rfl) rfl rfl ?_; clear hS
 intro tm hS
 refine o_pure hS (.inl rfl) rfl rfl ?_; clear hS
 intro tm hS
 refine o_pure hS (.inl rfl) rfl rfl ?_; clear hS
 intro tm hS
 refine o_nil (hR _ _ ?_)
 clear hR R
 refine wpC.ret ?_
 obtain rfl := Option.some.inj h0
 refine Exists.intro _ (And.intro (rs_tmp hS rfl (rs_tmp hS rfl rs_nil)) ?_)
 have hI := hS.inv
 exact ⟨rfl, (hI.sub sn)⟩
theorem wk94 {wm : Nat} {H : AHeap} {Fr : List Ent}  (b1 : Bool)   (hI : Kn wm H [] Fr) {r : Int × Bool} (h0 : M.ints_truth b1 = some r) :
  wpF Try.prog ora wm 94 [.bool b1] H (fun res H => res = .tuple #[.int .i64 r.1, .bool r.2] ∧ Kn wm H [] Fr) := by
 unfold M.ints_truth at h0
 refine f_enter (n := 5) Try.func94 rfl (by simp) hI rfl rfl rfl fun tm hS => ?_
 clear hI
 refine c_reg fun R hR => ?_
 refine o_pure hS (.inl rfl) rfl rfl ?_; clear hS
 intro tm hS
 refine o_pure hS (.inl rfl) rfl rfl ?_; clear hS
 intro tm hS
 refine o_nil (hR _ _ ?_)
 clear hR R
 refine c_seqS ?_
 refine c_reg fun R hR => ?_
 refine o_pure hS (.inl rfl) rfl rfl ?_; clear hS
 intro tm hS
 refine o_nil (hR _ _ ?_)
 clear hR R
 refine c_cond hS rfl (fun hc => ?_) (fun hc => ?_)
 ·replace h0 := iteT hc h0
  refine c_reg fun R hR => ?_
  refine o_pure hS (.inl rfl) rfl rfl ?_; clear hS
  intro tm hS
  refine o_pure hS (.inl rfl) rfl rfl ?_; clear hS
  intro tm hS
  refine o_nil (hR _ _ ?_)
  clear hR R
  refine wpC.ret ?_
  obtain rfl := Option.some.inj h0
  refine Exists.intro _ (And.intro (rs_tmp hS rfl (rs_tmp hS rfl rs_nil)) ?_)
  have hI := hS.inv
  exact ⟨rfl, (hI.sub sn)⟩
 ·replace h0 := iteF hc h0
  refine wpC.skip ?_
  refine c_reg fun R hR => ?_
  refine o_pure hS (.inl rfl) rfl rfl ?_; clear hS
  intro tm hS
  refine o_pure hS (.inl rfl) rfl rfl ?_; clear hS
  intro tm hS
  refine o_nil (hR _ _ ?_)
  clear hR R
  refine wpC.ret ?_
  obtain rfl := Option.some.inj h0
  refine Exists.intro _ (And.intro (rs_tmp hS rfl (rs_tmp hS rfl rs_nil)) ?_)
  have hI := hS.inv
  exact ⟨rfl, (hI.sub sn)⟩
theorem wk93 {wm : Nat} {H : AHeap} {Fr : List Ent}  (a1 : Int) (b1 : Int)   (hI : Kn wm H [] Fr) {r : Int × Bool} (h0 : M.ints_dyads_3 a1 b1 = some r) :
  wpF Try.prog ora wm 93 [.int .i64 a1, .int .i64 b1] H (fun res H => res = .tuple #[.int .i64 r.1, .bool r.2] ∧ Kn wm H [] Fr) := by
 unfold M.ints_dyads_3 at h0
 refine f_enter (n := 12) Try.func93 rfl (by simp) hI rfl rfl rfl fun tm hS => ?_
 clear hI
 refine c_reg fun R hR => ?_
 refine o_pure hS (.inl rfl) rfl rfl ?_; clear hS
 intro tm hS
 refine o_pure hS (.inl rfl) rfl rfl ?_; clear hS
 intro tm hS
 refine o_nil (hR _ _ ?_)
 clear hR R
 refine c_reg fun R hR => ?_
 refine o_pure hS (.inl rfl) rfl rfl ?_; clear hS
 intro tm hS
 refine o_pure hS (.inl rfl) rfl rfl ?_; clear hS
 intro tm hS
 refine o_pure hS (.inl rfl) rfl rfl ?_; clear hS
 intro tm hS
 obtain ⟨⟨r1, r2⟩, hx1, h0⟩ := bindS h0
 refine o_call hS (.inl rfl) rfl (fun wm' hw1 hw2 => wk94  (decide (a1 < b1))   (hS.sel hw2) hx1) (fun wm' res H hw' hp => ?_)
 obtain ⟨hres, hI⟩ := hp
 replace hres := hres.symm; subst hres
 replace hS : S wm 12 _ H ((9, .tuple #[.int .i64 r1, .bool r2]) :: _) ([] ++ _) Fr := hS.after rfl hw' hI
 clear hI hw'
 refine o_pure hS (.inl rfl) rfl rfl ?_; clear hS
 intro tm hS
 refine o_pure hS (.inl rfl) rfl rfl ?_; clear hS
 intro tm hS
 refine o_pure hS (.inl rfl) rfl rfl ?_; clear hS
 intro tm hS
 refine o_pure hS (.inl rfl) rfl rfl ?_; clear hS
 intro tm hS
 refine o_nil (hR _ _ ?_)
 clear hR R
 refine wpC.ret ?_
 obtain rfl := Option.some.inj h0
 refine Exists.intro _ (And.intro (rs_tmp hS rfl (rs_tmp hS rfl rs_nil)) ?_)
 have hI := hS.inv
 exact ⟨rfl, (hI.sub sn)⟩
theorem wk95 {wm : Nat} {H : AHeap} {Fr : List Ent}  (a1 : Int) (b1 : Int)   (hI : Kn wm H [] Fr) {r : Int × Bool} (h0 : M.ints_dyads_4 a1 b1 = some r) :
  wpF Try.prog ora wm 95 [.int .i64 a1, .int .i64 b1] H (fun res H => res = .tuple #[.int .i64 r.1, .bool r.2] ∧ Kn wm H [] Fr) := by
 unfold M.ints_dyads_4 at h0
 refine f_enter (n := 12) Try.func95 rfl (by simp) hI rfl rfl rfl fun tm hS => ?_
 clear hI
 refine c_reg fun R hR => ?_
 refine o_pure hS (.inl rfl) rfl rfl ?_; clear hS
 intro tm hS
 refine o_pure hS (.inl rfl) rfl rfl ?_; clear hS
 intro tm hS
 refine o_nil (hR _ _ ?_)
 clear hR R
 refine c_reg fun R hR => ?_
 refine o_pure hS (.inl rfl) rfl rfl ?_; clear hS
 intro tm hS
 refine o_pure hS (.inl rfl) rfl rfl ?_; clear hS
 intro tm hS
 refine o_pure hS (.inl rfl) rfl rfl ?_; clear hS
 intro tm hS
 obtain ⟨⟨r1, r2⟩, hx1, h0⟩ := bindS h0
 refine o_call hS (.inl rfl) rfl (fun wm' hw1 hw2 => wk94  (decide (a1 ≤ b1))   (hS.sel hw2) hx1) (fun wm' res H hw' hp => ?_)
 obtain ⟨hres, hI⟩ := hp
 replace hres := hres.symm; subst hres
 replace hS : S wm 12 _ H ((9, .tuple #[.int .i64 r1, .bool r2]) :: _) ([] ++ _) Fr := hS.after rfl hw' hI
 clear hI hw'
 refine o_pure hS (.inl rfl) rfl rfl ?_; clear hS
 intro tm hS
 refine o_pure hS (.inl rfl) rfl rfl ?_; clear hS
 intro tm hS
 refine o_pure hS (.inl rfl) rfl rfl ?_; clear hS
 intro tm hS
 refine o_pure hS (.inl rfl) rfl rfl ?_; clear hS
 intro tm hS
 refine o_nil (hR _ _ ?_)
 clear hR R
 refine wpC.ret ?_
 obtain rfl := Option.some.inj h0
 refine Exists.intro _ (And.intro (rs_tmp hS rfl (rs_tmp hS rfl rs_nil)) ?_)
 have hI := hS.inv
 exact ⟨rfl, (hI.sub sn)⟩
theorem wk96 {wm : Nat} {H : AHeap} {Fr : List Ent}  (a1 : Int) (b1 : Int)   (hI : Kn wm H [] Fr) {r : Int × Bool} (h0 : M.ints_dyads_5 a1 b1 = some r) :
  wpF Try.prog ora wm 96 [.int .i64 a1, .int .i64 b1] H (fun res H => res = .tuple #[.int .i64 r.1, .bool r.2] ∧ Kn wm H [] Fr) := by
 unfold M.ints_dyads_5 at h0
 refine f_enter (n := 12) Try.func96 rfl (by simp) hI rfl rfl rfl fun tm hS => ?_
 clear hI
 refine c_reg fun R hR => ?_
 refine o_pure hS (.inl rfl) rfl rfl ?_; clear hS
 intro tm hS
 refine o_pure hS (.inl rfl) rfl rfl ?_; clear hS
 intro tm hS
 refine o_nil (hR _ _ ?_)
 clear hR R
 refine c_reg fun R hR => ?_
 refine o_pure hS (.inl rfl) rfl rfl ?_; clear hS
 intro tm hS
 refine o_pure hS (.inl rfl) rfl rfl ?_; clear hS
 intro tm hS
 refine o_pure hS (.inl rfl) rfl rfl ?_; clear hS
 intro tm hS
 obtain ⟨⟨r1, r2⟩, hx1, h0⟩ := bindS h0
 refine o_call hS (.inl rfl) rfl (fun wm' hw1 hw2 => wk94  (a1 == b1)   (hS.sel hw2) hx1) (fun wm' res H hw' hp => ?_)
 obtain ⟨hres, hI⟩ := hp
 replace hres := hres.symm; subst hres
 replace hS : S wm 12 _ H ((9, .tuple #[.int .i64 r1, .bool r2]) :: _) ([] ++ _) Fr := hS.after rfl hw' hI
 clear hI hw'
 refine o_pure hS (.inl rfl) rfl rfl ?_; clear hS
 intro tm hS
 refine o_pure hS (.inl rfl) rfl rfl ?_; clear hS
 intro tm hS
 refine o_pure hS (.inl rfl) rfl rfl ?_; clear hS
 intro tm hS
 refine o_pure hS (.inl rfl) rfl rfl ?_; clear hS
 intro tm hS
 refine o_nil (hR _ _ ?_)
 clear hR R
 refine wpC.ret ?_
 obtain rfl := Option.some.inj h0
 refine Exists.intro _ (And.intro (rs_tmp hS rfl (rs_tmp hS rfl rs_nil)) ?_)
 have hI := hS.inv
 exact ⟨rfl, (hI.sub sn)⟩
theorem wk97 {wm : Nat} {H : AHeap} {Fr : List Ent}  (a1 : Int) (b1 : Int)   (hI : Kn wm H [] Fr) {r : Int × Bool} (h0 : M.ints_dyads_6 a1 b1 = some r) :
  wpF Try.prog ora wm 97 [.int .i64 a1, .int .i64 b1] H (fun res H => res = .tuple #[.int .i64 r.1, .bool r.2] ∧ Kn wm H [] Fr) := by
 unfold M.ints_dyads_6 at h0
 refine f_enter (n := 12) Try.func97 rfl (by simp) hI rfl rfl rfl fun tm hS => ?_
 clear hI
 refine c_reg fun R hR => ?_
 refine o_pure hS (.inl rfl) rfl rfl ?_; clear hS
 intro tm hS
 refine o_pure hS (.inl rfl) rfl rfl ?_; clear hS
 intro tm hS
 refine o_nil (hR _ _ ?_)
 clear hR R
 refine c_reg fun R hR => ?_
 refine o_pure hS (.inl rfl) rfl rfl ?_; clear hS
 intro tm hS
 refine o_pure hS (.inl rfl) rfl rfl ?_; clear hS
 intro tm hS
 refine o_pure hS (.inl rfl) rfl rfl ?_; clear hS
 intro tm hS
 obtain ⟨⟨r1, r2⟩, hx1, h0⟩ := bindS h0
 refine o_call hS (.inl rfl) rfl (fun wm' hw1 hw2 => wk94  (decide (a1 ≥ b1))   (hS.sel hw2) hx1) (fun wm' res H hw' hp => ?_)
 obtain ⟨hres, hI⟩ := hp
 replace hres := hres.symm; subst hres
 replace hS : S wm 12 _ H ((9, .tuple #[.int .i64 r1, .bool r2]) :: _) ([] ++ _) Fr := hS.after rfl hw' hI
 clear hI hw'
 refine o_pure hS (.inl rfl) rfl rfl ?_; clear hS
 intro tm hS
 refine o_pure hS (.inl rfl) rfl rfl ?_; clear hS
 intro tm hS
 refine o_pure hS (.inl rfl) rfl rfl ?_; clear hS
 intro tm hS
 refine o_pure hS (.inl rfl) rfl rfl ?_; clear hS
 intro tm hS
 refine o_nil (hR _ _ ?_)
 clear hR R
 refine wpC.ret ?_
 obtain rfl := Option.some.inj h0
 refine Exists.intro _ (And.intro (rs_tmp hS rfl (rs_tmp hS rfl rs_nil)) ?_)
 have hI := hS.inv
 exact ⟨rfl, (hI.sub sn)⟩
theorem wk98 {wm : Nat} {H : AHeap} {Fr : List Ent}  (a1 : Int) (b1 : Int)   (hI : Kn wm H [] Fr) {r : Int × Bool} (h0 : M.ints_dyads_7 a1 b1 = some r) :
  wpF Try.prog ora wm 98 [.int .i64 a1, .int .i64 b1] H (fun res H => res = .tuple #[.int .i64 r.1, .bool r.2] ∧ Kn wm H [] Fr) := by
 unfold M.ints_dyads_7 at h0
 refine f_enter (n := 12) Try.func98 rfl (by simp) hI rfl rfl rfl fun tm hS => ?_
 clear hI
 refine c_reg fun R hR => ?_
 refine o_pure hS (.inl rfl) rfl rfl ?_; clear hS
 intro tm hS
 refine o_pure hS (.inl rfl) rfl rfl ?_; clear hS
 intro tm hS
 refine o_nil (hR _ _ ?_)
 clear hR R
 refine c_reg fun R hR => ?_
 refine o_pure hS (.inl rfl) rfl rfl ?_; clear hS
 intro tm hS
 refine o_pure hS (.inl rfl) rfl rfl ?_; clear hS
 intro tm hS
 refine o_pure hS (.inl rfl) rfl rfl ?_; clear hS
 intro tm hS
 obtain ⟨⟨r1, r2⟩, hx1, h0⟩ := bindS h0
 refine o_call hS (.inl rfl) rfl (fun wm' hw1 hw2 => wk94  (decide (a1 > b1))   (hS.sel hw2) hx1) (fun wm' res H hw' hp => ?_)
 obtain ⟨hres, hI⟩ := hp
 replace hres := hres.symm; subst hres
 replace hS : S wm 12 _ H ((9, .tuple #[.int .i64 r1, .bool r2]) :: _) ([] ++ _) Fr := hS.after rfl hw' hI
 clear hI hw'
 refine o_pure hS (.inl rfl) rfl rfl ?_; clear hS
 intro tm hS
 refine o_pure hS (.inl rfl) rfl rfl ?_; clear hS
 intro tm hS
 refine o_pure hS (.inl rfl) rfl rfl ?_; clear hS
 intro tm hS
 refine o_pure hS (.inl rfl) rfl rfl ?_; clear hS
 intro tm hS
 refine o_nil (hR _ _ ?_)
 clear hR R
 refine wpC.ret ?_
 obtain rfl := Option.some.inj h0
 refine Exists.intro _ (And.intro (rs_tmp hS rfl (rs_tmp hS rfl rs_nil)) ?_)
 have hI := hS.inv
 exact ⟨rfl, (hI.sub sn)⟩
theorem wk99 {wm : Nat} {H : AHeap} {Fr : List Ent}  (a1 : Int) (b1 : Int)   (hI : Kn wm H [] Fr) {r : Int × Bool} (h0 : M.ints_dyads_8 a1 b1 = some r) :
  wpF Try.prog ora wm 99 [.int .i64 a1, .int .i64 b1] H (fun res H => res = .tuple #[.int .i64 r.1, .bool r.2] ∧ Kn wm H [] Fr) := by
 unfold M.ints_dyads_8 at h0
 refine f_enter (n := 12) Try.func99 rfl (by simp) hI rfl rfl rfl fun tm hS => ?_
 clear hI
 refine c_reg fun R hR => ?_
 refine o_pure hS (.inl rfl) rfl rfl ?_; clear hS
 intro tm hS
 refine o_pure hS (.inl rfl) rfl rfl ?_; clear hS
 intro tm hS
 refine o_nil (hR _ _ ?_)
 clear hR R
 refine c_reg fun R hR => ?_
 refine o_pure hS (.inl rfl) rfl rfl ?_; clear hS
 intro tm hS
 refine o_pure hS (.inl rfl) rfl rfl ?_; clear hS
 intro tm hS
 refine o_pure hS (.inl rfl) rfl rfl ?_; clear hS
 intro tm hS
 obtain ⟨⟨r1, r2⟩, hx1, h0⟩ := bindS h0
 refine o_call hS (.inl rfl) rfl (fun wm' hw1 hw2 => wk94  (a1 != b1)   (hS.sel hw2) hx1) (fun wm' res H hw' hp => ?_)
 obtain ⟨hres, hI⟩ := hp
 replace hres := hres.symm; subst hres
 replace hS : S wm 12 _ H ((9, .tuple #[.int .i64 r1, .bool r2]) :: _) ([] ++ _) Fr := hS.after rfl hw' hI
 clear hI hw'
 refine o_pure hS (.inl rfl) rfl rfl ?_; clear hS
 intro tm hS
 refine o_pure hS (.inl rfl) rfl rfl ?_; clear hS
 intro tm hS
 refine o_pure hS (.inl rfl) rfl rfl ?_; clear hS
 intro tm hS
 refine o_pure hS (.inl rfl) rfl rfl ?_; clear hS
 intro tm hS
 refine o_nil (hR _ _ ?_)
 clear hR R
 refine wpC.ret ?_
 obtain rfl := Option.some.inj h0
 refine Exists.intro _ (And.intro (rs_tmp hS rfl (rs_tmp hS rfl rs_nil)) ?_)
 have hI := hS.inv
 exact ⟨rfl, (hI.sub sn)⟩
theorem wk100 {wm : Nat} {H : AHeap} {Fr : List Ent}  (a1 : Int) (b1 : Int)   (hI : Kn wm H [] Fr) {r : Int × Bool} (h0 : M.ints_dyads_9 a1 b1 = some r) :
  wpF Try.prog ora wm 100 [.int .i64 a1, .int .i64 b1] H (fun res H => res = .tuple #[.int .i64 r.1, .bool r.2] ∧ Kn wm H [] Fr) := by
 unfold M.ints_dyads_9 at h0
 refine f_enter (n := 15) Try.func100 rfl (by simp) hI rfl rfl rfl fun tm hS => ?_
 clear hI
 refine c_reg fun R hR => ?_
 refine o_pure hS (.inl rfl) rfl rfl ?_; clear hS
 intro tm hS
 refine o_pure hS (.inl rfl) rfl rfl ?_; clear hS
 intro tm hS
 refine o_nil (hR _ _ ?_)
 clear hR R
 refine c_reg fun R hR => ?_
 refine o_pure hS (.inl rfl) rfl rfl ?_; clear hS
 intro tm hS
 refine o_pure hS (.inl rfl) rfl rfl ?_; clear hS
 intro tm hS
 refine o_pure hS (.inl rfl) rfl rfl ?_; clear hS
 intro tm hS
 refine o_pure hS (.inl rfl) rfl rfl ?_; clear hS
 intro tm hS
 obtain ⟨r1, hx1, h0⟩ := bindS h0
 refine o_call hS (.inl rfl) rfl (fun wm' hw1 hw2 => wk101  a1   (hS.sel hw2) hx1) (fun wm' res H hw' hp => ?_)
 obtain ⟨hres, hI⟩ := hp
 replace hres := hres.symm; subst hres
 replace hS : S wm 15 _ H ((10, .bool r1) :: _) ([] ++ _) Fr := hS.after rfl hw' hI
 clear hI hw'
 refine o_pure hS (.inl rfl) rfl rfl ?_; clear hS
 intro tm hS
 obtain ⟨c1, hc1, h0⟩ := bindS h0
 refine o_cutN 3 (J := fun tm H => S wm 15 tm H [(14, .bool c1), (8, .int .i64 (IntKind.i64.wrap (BitVec.ofInt IntKind.i64.bits a1 &&& BitVec.ofInt IntKind.i64.bits b1).toNat))] [] Fr) ?_ ?_
 ·rcases Bool.eq_false_or_eq_true r1 with hg1 | hg1
  ·replace hc1 := iteT hg1 hc1
   refine o_pure hS (.inr ⟨_, _, _, _, rfl, rfl, rfl, hg1⟩) rfl rfl ?_; clear hS
   intro tm hS
   obtain ⟨r2, hx2, hc1⟩ := bindS hc1
   refine o_call hS (.inr ⟨_, _, _, _, rfl, rfl, rfl, hg1⟩) rfl (fun wm' hw1 hw2 => wk101  b1   (hS.sel hw2) hx2) (fun wm' res H hw' hp => ?_)
   obtain ⟨hres, hI⟩ := hp
   replace hres := hres.symm; subst hres
   replace hS : S wm 15 _ H ((13, .bool r2) :: _) ([] ++ _) Fr := hS.after rfl hw' hI
   clear hI hw'
   refine o_pickT hS (.inl rfl) rfl rfl hg1 rfl ?_; clear hS
   intro tm hS
   obtain rfl := Option.some.inj hc1
   exact o_nil (hS.keep (ka_cons rfl (ka_cons rfl ka_nil)) (fun hI => (hI.sub sn)))
  ·replace hc1 := iteF hg1 hc1
   refine o_skip hS rfl rfl rfl hg1 ?_; clear hS
   intro tm hS
   refine o_skip hS rfl rfl rfl hg1 ?_; clear hS
   intro tm hS
   refine o_pickF hS (.inl rfl) rfl rfl hg1 rfl ?_; clear hS
   intro tm hS
   obtain rfl := Option.some.inj hc1
   exact o_nil (hS.keep (ka_cons rfl (ka_cons rfl ka_nil)) (fun hI => (hI.sub sn)))
 intro tm H hS
 refine o_pure hS (.inl rfl) rfl rfl ?_; clear hS
 intro tm hS
 refine o_pure hS (.inl rfl) rfl rfl ?_; clear hS
 intro tm hS
 refine o_nil (hR _ _ ?_)
 clear hR R
 refine wpC.ret ?_
 obtain rfl := Option.some.inj h0
 refine Exists.intro _ (And.intro (rs_tmp hS rfl (rs_tmp hS rfl rs_nil)) ?_)
 have hI := hS.inv
 exact ⟨rfl, (hI.sub sn)⟩
theorem wk102 {wm : Nat} {H : AHeap} {Fr : List Ent}  (a1 : Int) (b1 : Int)   (hI : Kn wm H [] Fr) {r : Int × Bool} (h0 : M.ints_dyads_10 a1 b1 = some r) :
  wpF Try.prog ora wm 102 [.int .i64 a1, .int .i64 b1] H (fun res H => res = .tuple #[.int .i64 r.1, .bool r.2] ∧ Kn wm H [] Fr) := by
 unfold M.ints_dyads_10 at h0
 refine f_enter (n := 15) Try.func102 rfl (by simp) hI rfl rfl rfl fun tm hS => ?_
 clear hI
 refine c_reg fun R hR => ?_
 refine o_pure hS (.inl rfl) rfl rfl ?_; clear hS
 intro tm hS
 refine o_pure hS (.inl rfl) rfl rfl ?_; clear hS
 intro tm hS
 refine o_nil (hR _ _ ?_)
 clear hR R
 refine c_reg fun R hR => ?_
 refine o_pure hS (.inl rfl) rfl rfl ?_; clear hS
 intro tm hS
 refine o_pure hS (.inl rfl) rfl rfl ?_; clear hS
 intro tm hS
 refine o_pure hS (.inl rfl) rfl rfl ?_; clear hS
 intro tm hS
 refine o_pure hS (.inl rfl) rfl rfl ?_; clear hS
 intro tm hS
 obtain ⟨r1, hx1, h0⟩ := bindS h0
 refine o_call hS (.inl rfl) rfl (fun wm' hw1 hw2 => wk101  a1   (hS.sel hw2) hx1) (fun wm' res H hw' hp => ?_)
 obtain ⟨hres, hI⟩ := hp
 replace hres := hres.symm; subst hres
 replace hS : S wm 15 _ H ((10, .bool r1) :: _) ([] ++ _) Fr := hS.after rfl hw' hI
 clear hI hw'
 refine o_pure hS (.inl rfl) rfl rfl ?_; clear hS
 intro tm hS
 obtain ⟨c1, hc1, h0⟩ := bindS h0
 refine o_cutN 3 (J := fun tm H => S wm 15 tm H [(14, .bool c1), (8, .int .i64 (IntKind.i64.wrap (BitVec.ofInt IntKind.i64.bits a1 ||| BitVec.ofInt IntKind.i64.bits b1).toNat))] [] Fr) ?_ ?_
 ·rcases Bool.eq_false_or_eq_true r1 with hg1 | hg1
  ·replace hc1 := iteT hg1 hc1
   refine o_pure hS (.inr ⟨_, _, _, _, rfl, rfl, rfl, hg1⟩) rfl rfl ?_; clear hS
   intro tm hS
   obtain ⟨r2, hx2, hc1⟩ := bindS hc1
   refine o_call hS (.inr ⟨_, _, _, _, rfl, rfl, rfl, hg1⟩) rfl (fun wm' hw1 hw2 => wk101  b1   (hS.sel hw2) hx2) (fun wm' res H hw' hp => ?_)
   obtain ⟨hres, hI⟩ := hp
   replace hres := hres.symm; subst hres
   replace hS : S wm 15 _ H ((13, .bool r2) :: _) ([] ++ _) Fr := hS.after rfl hw' hI
   clear hI hw'
   refine o_pickT hS (.inl rfl) rfl rfl hg1 rfl ?_; clear hS
   intro tm hS
   obtain rfl := Option.some.inj hc1
   exact o_nil (hS.keep (ka_cons rfl (ka_cons rfl ka_nil)) (fun hI => (hI.sub sn)))
  ·replace hc1 := iteF hg1 hc1
   refine o_skip hS rfl rfl rfl hg1 ?_; clear hS
   intro tm hS
   refine o_skip hS rfl rfl rfl hg1 ?_; clear hS
   intro tm hS
   refine o_pickF hS (.inl rfl) rfl rfl hg1 rfl ?_; clear hS
   intro tm hS
   obtain rfl := Option.some.inj hc1
   exact o_nil (hS.keep (ka_cons rfl (ka_cons rfl ka_nil)) (fun hI => (hI.sub sn)))
 intro tm H hS
 refine o_pure hS (.inl rfl) rfl rfl ?_; clear hS
 intro tm hS
 refine o_pure hS (.inl rfl) rfl rfl ?_; clear hS
 intro tm hS
 refine o_nil (hR _ _ ?_)
 clear hR R
 refine wpC.ret ?_
 obtain rfl := Option.some.inj h0
 refine Exists.intro _ (And.intro (rs_tmp hS rfl (rs_tmp hS rfl rs_nil)) ?_)
 have hI := hS.inv
 exact ⟨rfl, (hI.sub sn)⟩
theorem wk103 {wm : Nat} {H : AHeap} {Fr : List Ent}  (a1 : Int) (b1 : Int)   (hI : Kn wm H [] Fr) {r : Int × Bool} (h0 : M.ints_dyads_11 a1 b1 = some r) :
  wpF Try.prog ora wm 103 [.int .i64 a1, .int .i64 b1] H (fun res H => res = .tuple #[.int .i64 r.1, .bool r.2] ∧ Kn wm H [] Fr) := by
 unfold M.ints_dyads_11 at h0
 refine f_enter (n := 16) Try.func103 rfl (by simp) hI rfl rfl rfl fun tm hS => ?_
 clear hI
 refine c_reg fun R hR => ?_
 refine o_pure hS (.inl rfl) rfl rfl ?_; clear hS
 intro tm hS
 refine o_pure hS (.inl rfl) rfl rfl ?_; clear hS
 intro tm hS
 refine o_nil (hR _ _ ?_)
 clear hR R
 refine c_reg fun R hR => ?_
 refine o_pure hS (.inl rfl) rfl rfl ?_; clear hS
 intro tm hS
 refine o_pure hS (.inl rfl) rfl rfl ?_; clear hS
 intro tm hS
 refine o_pure hS (.inl rfl) rfl rfl ?_; clear hS
 intro tm hS
 refine o_pure hS (.inl rfl) rfl rfl ?_; clear hS
 intro tm hS
 refine o_pure hS (.inl rfl) rfl rfl ?_; clear hS
 intro tm hS
 obtain ⟨r1, hx1, h0⟩ := bindS h0
 refine o_call hS (.inl rfl) rfl (fun wm' hw1 hw2 => wk101  a1   (hS.sel hw2) hx1) (fun wm' res H hw' hp => ?_)
 obtain ⟨hres, hI⟩ := hp
 replace hres := hres.symm; subst hres
 replace hS : S wm 16 _ H ((11, .bool r1) :: _) ([] ++ _) Fr := hS.after rfl hw' hI
 clear hI hw'
 refine o_pure hS (.inl rfl) rfl rfl ?_; clear hS
 intro tm hS
 obtain ⟨c1, hc1, h0⟩ := bindS h0
 refine o_cutN 3 (J := fun tm H => S wm 16 tm H [(15, .bool c1), (9, .int .i64 (IntKind.i64.wrap (1 - (IntKind.i64.wrap (BitVec.ofInt IntKind.i64.bits a1 &&& BitVec.ofInt IntKind.i64.bits b1).toNat))))] [] Fr) ?_ ?_
 ·rcases Bool.eq_false_or_eq_true r1 with hg1 | hg1
  ·replace hc1 := iteT hg1 hc1
   refine o_pure hS (.inr ⟨_, _, _, _, rfl, rfl, rfl, hg1⟩) rfl rfl ?_; clear hS
   intro tm hS
   obtain ⟨r2, hx2, hc1⟩ := bindS hc1
   refine o_call hS (.inr ⟨_, _, _, _, rfl, rfl, rfl, hg1⟩) rfl (fun wm' hw1 hw2 => wk101  b1   (hS.sel hw2) hx2) (fun wm' res H hw' hp => ?_)
   obtain ⟨hres, hI⟩ := hp
   replace hres := hres.symm; subst hres
   replace hS : S wm 16 _ H ((14, .bool r2) :: _) ([] ++ _) Fr := hS.after rfl hw' hI
   clear hI hw'
   refine o_pickT hS (.inl rfl) rfl rfl hg1 rfl ?_; clear hS
   intro tm hS
   obtain rfl := Option.some.inj hc1
   exact o_nil (hS.keep (ka_cons rfl (ka_cons rfl ka_nil)) (fun hI => (hI.sub sn)))
  ·replace hc1 := iteF hg1 hc1
   refine o_skip hS rfl rfl rfl hg1 ?_; clear hS
   intro tm hS
   refine o_skip hS rfl rfl rfl hg1 ?_; clear hS
   intro tm hS
   refine o_pickF hS (.inl rfl) rfl rfl hg1 rfl ?_; clear hS
   intro tm hS
   obtain rfl := Option.some.inj hc1
   exact o_nil (hS.keep (ka_cons rfl (ka_cons rfl ka_nil)) (fun hI => (hI.sub sn)))
 intro tm H hS
 refine o_pure hS (.inl rfl) rfl rfl ?_; clear hS
 intro tm hS
 refine o_pure hS (.inl rfl) rfl rfl ?_; clear hS
 intro tm hS
 refine o_nil (hR _ _ ?_)
 clear hR R
 refine wpC.ret ?_
 obtain rfl := Option.some.inj h0
 refine Exists.intro _ (And.intro (rs_tmp hS rfl (rs_tmp hS rfl rs_nil)) ?_)
 have hI := hS.inv
 exact ⟨rfl, (hI.sub sn)⟩
theorem wk104 {wm : Nat} {H : AHeap} {Fr : List Ent}  (a1 : Int) (b1 : Int)   (hI : Kn wm H [] Fr) {r : Int × Bool} (h0 : M.ints_dyads_12 a1 b1 = some r) :
  wpF Try.prog ora wm 104 [.int .i64 a1, .int .i64 b1] H (fun res H => res = .tuple #[.int .i64 r.1, .bool r.2] ∧ Kn wm H [] Fr) := by
 unfold M.ints_dyads_12 at h0
 refine f_enter (n := 16) Try.func104 rfl (by simp) hI rfl rfl rfl fun tm hS => ?_
 clear hI
 refine c_reg fun R hR => ?_
 refine o_pure hS (.inl rfl) rfl rfl ?_; clear hS
 intro tm hS
 refine o_pure hS (.inl rfl) rfl rfl ?_; clear hS
 intro tm hS
 refine o_nil (hR _ _ ?_)
 clear hR R
 refine c_reg fun R hR => ?_
 refine o_pure hS (.inl rfl) rfl rfl ?_; clear hS
 intro tm hS
 refine o_pure hS (.inl rfl) rfl rfl ?_; clear hS
 intro tm hS
 refine o_pure hS (.inl rfl) rfl rfl ?_; clear hS
 intro tm hS
 refine o_pure hS (.inl rfl) rfl rfl ?_; clear hS
 intro tm hS
 refine o_pure hS (.inl rfl) rfl rfl ?_; clear hS
 intro tm hS
 obtain ⟨r1, hx1, h0⟩ := bindS h0
 refine o_call hS (.inl rfl) rfl (fun wm' hw1 hw2 => wk101  a1   (hS.sel hw2) hx1) (fun wm' res H hw' hp => ?_)
 obtain ⟨hres, hI⟩ := hp
 replace hres := hres.symm; subst hres
 replace hS : S wm 16 _ H ((11, .bool r1) :: _) ([] ++ _) Fr := hS.after rfl hw' hI
 clear hI hw'
 refine o_pure hS (.inl rfl) rfl rfl ?_; clear hS
 intro tm hS
 obtain ⟨c1, hc1, h0⟩ := bindS h0
 refine o_cutN 3 (J := fun tm H => S wm 16 tm H [(15, .bool c1), (9, .int .i64 (IntKind.i64.wrap (1 - (IntKind.i64.wrap (BitVec.ofInt IntKind.i64.bits a1 ||| BitVec.ofInt IntKind.i64.bits b1).toNat))))] [] Fr) ?_ ?_
 ·rcases Bool.eq_false_or_eq_true r1 with hg1 | hg1
  ·replace hc1 := iteT hg1 hc1
   refine o_pure hS (.inr ⟨_, _, _, _, rfl, rfl, rfl, hg1⟩) rfl rfl ?_; clear hS
   intro tm hS
   obtain ⟨r2, hx2, hc1⟩ := bindS hc1
   refine o_call hS (.inr ⟨_, _, _, _, rfl, rfl, rfl, hg1⟩) rfl (fun wm' hw1 hw2 => wk101  b1   (hS.sel hw2) hx2) (fun wm' res H hw' hp => ?_)
   obtain ⟨hres, hI⟩ := hp
   replace hres := hres.symm; subst hres
   replace hS : S wm 16 _ H ((14, .bool r2) :: _) ([] ++ _) Fr := hS.after rfl hw' hI
   clear hI hw'
   refine o_pickT hS (.inl rfl) rfl rfl hg1 rfl ?_; clear hS
   intro tm hS
   obtain rfl := Option.some.inj hc1
   exact o_nil (hS.keep (ka_cons rfl (ka_cons rfl ka_nil)) (fun hI => (hI.sub sn)))
  ·replace hc1 := iteF hg1 hc1
   refine o_skip hS rfl rfl rfl hg1 ?_; clear hS
   intro tm hS
   refine o_skip hS rfl rfl rfl hg1 ?_; clear hS
   intro tm hS
   refine o_pickF hS (.inl rfl) rfl rfl hg1 rfl ?_; clear hS
   intro tm hS
   obtain rfl := Option.some.inj hc1
   exact o_nil (hS.keep (ka_cons rfl (ka_cons rfl ka_nil)) (fun hI => (hI.sub sn)))
 intro tm H hS
 refine o_pure hS (.inl rfl) rfl rfl ?_; clear hS
 intro tm hS
 refine o_pure hS (.inl rfl) rfl rfl ?_; clear hS
 intro tm hS
 refine o_nil (hR _ _ ?_)
 clear hR R
 refine wpC.ret ?_
 obtain rfl := Option.some.inj h0
 refine Exists.intro _ (And.intro (rs_tmp hS rfl (rs_tmp hS rfl rs_nil)) ?_)
 have hI := hS.inv
 exact ⟨rfl, (hI.sub sn)⟩
theorem wk15 {wm : Nat} {H : AHeap} {Fr : List Ent} (ho52 : ora 52 = false) (fn1 : ByteArray) (a1 : Int) (b1 : Int)   (hI : Kn wm H [] Fr) {r : Int × Int} (h0 : M.ints_Dyad fn1 a1 b1 = some r) :
  wpF Try.prog ora wm 15 [.string fn1, .int .i64 a1, .int .i64 b1] H (fun res H => res = .tuple #[.int .i64 r.1, .int .i64 r.2] ∧ Kn wm H [] Fr) := by
 unfold M.ints_Dyad at h0
 refine f_enter (n := 27) Try.func15 rfl (by simp) hI rfl rfl rfl fun tm hS => ?_
 clear hI
 refine c_reg fun R hR => ?_
 refine o_pure hS (.inl rfl) rfl rfl ?_; clear hS
 intro tm hS
 refine o_pure hS (.inl rfl) rfl rfl ?_; clear hS
 intro tm hS
 refine o_nil (hR _ _ ?_)
 clear hR R
 refine c_reg fun R hR => ?_
 obtain ⟨r1, hx1, h0⟩ := bindS h0
 refine o_call hS (.inl rfl) rfl (fun wm' hw1 hw2 => wk52 ho52    (hS.sel hw2) hx1) (fun wm' res H hw' hp => ?_)
 obtain ⟨b2, hres, hI⟩ := hp
 replace hres := hres.symm; subst hres
 replace hS : S wm 27 _ H ((11, .map (some b2)) :: _) ([.raw b2 (.amap (mapE [(str_43, 84), (str_45, 85), (str_195_151, 86), (str_195_183, 87), (str_42, 88), (str_124, 89), (str_33, 90), (str_226_140_136, 91), (str_226_140_138, 92), (str_60, 93), (str_226_137_164, 95), (str_61, 96), (str_226_137_165, 97), (str_62, 98), (str_226_137_160, 99), (str_226_136_167, 100), (str_226_136_168, 102), (str_226_141_178, 103), (str_226_141_177, 104)]))] ++ _) Fr := hS.after rfl hw' hI
 clear hI hw'
 refine o_pure hS (.inl rfl) rfl rfl ?_; clear hS
 intro tm hS
 refine o_lookup (k := 0) hS (.inl rfl) rfl rfl rfl rfl Fu71 Fu9 (by kernel_rfl) ?_; clear hS
 intro tm hS
 rcases Bool.eq_false_or_eq_true (fn1 == str_43) with hk | hk
 ·rw [lookT_yes hk] at hS
  replace h0 := iteT hk h0
  clear hk
  refine o_pure hS (.inl rfl) rfl rfl ?_; clear hS
  intro tm hS
  refine o_pure hS (.inl rfl) rfl rfl ?_; clear hS
  intro tm hS
  refine o_pure hS (.inl rfl) rfl rfl ?_; clear hS
  intro tm hS
  refine o_pure hS (.inl rfl) rfl rfl ?_; clear hS
  intro tm hS
  refine o_pure hS (.inl rfl) rfl rfl ?_; clear hS
  intro tm hS
  refine o_nil (hR _ _ ?_)
  clear hR R
  refine c_seqS ?_
  refine c_reg fun R hR => ?_
  refine o_pure hS (.inl rfl) rfl rfl ?_; clear hS
  intro tm hS
  refine o_pure hS (.inl rfl) rfl rfl ?_; clear hS
  intro tm hS
  refine o_nil (hR _ _ ?_)
  clear hR R
  refine c_cond hS rfl (fun h => by cases h) (fun _ => ?_)
  refine wpC.skip ?_
  refine c_reg fun R hR => ?_
  refine o_pure hS (.inl rfl) rfl rfl ?_; clear hS
  intro tm hS
  refine o_pure hS (.inl rfl) rfl rfl ?_; clear hS
  intro tm hS
  refine o_pure hS (.inl rfl) rfl rfl ?_; clear hS
  intro tm hS
  obtain ⟨⟨r2, r3⟩, hx2, h0⟩ := bindS h0
  refine o_call hS (.inl rfl) rfl (fun wm' hw1 hw2 => wk84  a1 b1   (hS.sel hw2) hx2) (fun wm' res H hw' hp => ?_)
  obtain ⟨hres, hI⟩ := hp
  replace hres := hres.symm; subst hres
  replace hS : S wm 27 _ H ((21, .tuple #[.int .i64 r2, .bool r3]) :: _) ([] ++ _) Fr := hS.after rfl hw' hI
  clear hI hw'
  refine o_pure hS (.inl rfl) rfl rfl ?_; clear hS
  intro tm hS
  refine o_pure hS (.inl rfl) rfl rfl ?_; clear hS
  intro tm hS
  obtain ⟨⟨r4, r5⟩, hx3, h0⟩ := bindS h0
  refine o_call hS (.inl rfl) rfl (fun wm' hw1 hw2 => wk53  r2 r3   (hS.sel hw2) hx3) (fun wm' res H hw' hp => ?_)
  obtain ⟨hres, hI⟩ := hp
  replace hres := hres.symm; subst hres
  replace hS : S wm 27 _ H ((24, .tuple #[.int .i64 r4, .int .i64 r5]) :: _) ([] ++ _) Fr := hS.after rfl hw' hI
  clear hI hw'
  refine o_pure hS (.inl rfl) rfl rfl ?_; clear hS
  intro tm hS
  refine o_pure hS (.inl rfl) rfl rfl ?_; clear hS
  intro tm hS
  refine o_pure hS (.inl rfl) rfl rfl ?_; clear hS
  intro tm hS
  refine o_pure hS (.inl rfl) rfl rfl ?_; clear hS
  intro tm hS
  refine o_nil (hR _ _ ?_)
  clear hR R
  refine wpC.ret ?_
  obtain rfl := Option.some.inj h0
  refine Exists.intro _ (And.intro (rs_tmp hS rfl (rs_tmp hS rfl rs_nil)) ?_)
  have hI := hS.inv
  exact ⟨rfl, (hI.sub sn)⟩
 rw [lookT_no hk] at hS
 replace h0 := iteF hk h0
 clear hk
 rcases Bool.eq_false_or_eq_true (fn1 == str_45) with hk | hk
 ·rw [lookT_yes hk] at hS
  replace h0 := iteT hk h0
  clear hk
  refine o_pure hS (.inl rfl) rfl rfl ?_; clear hS
  intro tm hS
  refine o_pure hS (.inl rfl) rfl rfl ?_; clear hS
  intro tm hS
  refine o_pure hS (.inl rfl) rfl rfl ?_; clear hS
  intro tm hS
  refine o_pure hS (.inl rfl) rfl rfl ?_; clear hS
  intro tm hS
  refine o_pure hS (.inl rfl) rfl rfl ?_; clear hS
  intro tm hS
  refine o_nil (hR _ _ ?_)
  clear hR R
  refine c_seqS ?_
  refine c_reg fun R hR => ?_
  refine o_pure hS (.inl rfl) rfl rfl ?_; clear hS
  intro tm hS
  refine o_pure hS (.inl rfl) rfl rfl ?_; clear hS
  intro tm hS
  refine o_nil (hR _ _ ?_)
  clear hR R
  refine c_cond hS rfl (fun h => by cases h) (fun _ => ?_)
  refine wpC.skip ?_
  refine c_reg fun R hR => ?_
  refine o_pure hS (.inl rfl) rfl rfl ?_; clear hS
  intro tm hS
  refine o_pure hS (.inl rfl) rfl rfl ?_; clear hS
  intro tm hS
  refine o_pure hS (.inl rfl) rfl rfl ?_; clear hS
  intro tm hS
  obtain ⟨⟨r6, r7⟩, hx4, h0⟩ := bindS h0
  refine o_call hS (.inl rfl) rfl (fun wm' hw1 hw2 => wk85  a1 b1   (hS.sel hw2) hx4) (fun wm' res H hw' hp => ?_)
  obtain ⟨hres, hI⟩ := hp
  replace hres := hres.symm; subst hres
  replace hS : S wm 27 _ H ((21, .tuple #[.int .i64 r6, .bool r7]) :: _) ([] ++ _) Fr := hS.after rfl hw' hI
  clear hI hw'
  refine o_pure hS (.inl rfl) rfl rfl ?_; clear hS
  intro tm hS
  refine o_pure hS (.inl rfl) rfl rfl ?_; clear hS
  intro tm hS
  obtain ⟨⟨r8, r9⟩, hx5, h0⟩ := bindS h0
  refine o_call hS (.inl rfl) rfl (fun wm' hw1 hw2 => wk53  r6 r7   (hS.sel hw2) hx5) (fun wm' res H hw' hp => ?_)
  obtain ⟨hres, hI⟩ := hp
  replace hres := hres.symm; subst hres
  replace hS : S wm 27 _ H ((24, .tuple #[.int .i64 r8, .int .i64 r9]) :: _) ([] ++ _) Fr := hS.after rfl hw' hI
  clear hI hw'
  refine o_pure hS (.inl rfl) rfl rfl ?_; clear hS
  intro tm hS
  refine o_pure hS (.inl rfl) rfl rfl ?_; clear hS
  intro tm hS
  refine o_pure hS (.inl rfl) rfl rfl ?_; clear hS
  intro tm hS
  refine o_pure hS (.inl rfl) rfl rfl ?_; clear hS
  intro tm hS
  refine o_nil (hR _ _ ?_)
  clear hR R
  refine wpC.ret ?_
  obtain rfl := Option.some.inj h0
  refine Exists.intro _ (And.intro (rs_tmp hS rfl (rs_tmp hS rfl rs_nil)) ?_)
  have hI := hS.inv
  exact ⟨rfl, (hI.sub sn)⟩
 rw [lookT_no hk] at hS
 replace h0 := iteF hk h0
 clear hk
 rcases Bool.eq_false_or_eq_true (fn1 == str_195_151) with hk | hk
 ·rw [lookT_yes hk] at hS
  replace h0 := iteT hk h0
  clear hk
  refine o_pure hS (.inl rfl) rfl rfl ?_; clear hS
  intro tm hS
  refine o_pure hS (.inl rfl) rfl rfl ?_; clear hS
  intro tm hS
  refine o_pure hS (.inl rfl) rfl rfl ?_; clear hS
  intro tm hS
  refine o_pure hS (.inl rfl) rfl rfl ?_; clear hS
  intro tm hS
  refine o_pure hS (.inl rfl) rfl rfl ?_; clear hS
  intro tm hS
  refine o_nil (hR _ _ ?_)
  clear hR R
  refine c_seqS ?_
  refine c_reg fun R hR => ?_
  refine o_pure hS (.inl rfl) rfl rfl ?_; clear hS
  intro tm hS
  refine o_pure hS (.inl rfl) rfl rfl ?_; clear hS
  intro tm hS
  refine o_nil (hR _ _ ?_)
  clear hR R
  refine c_cond hS rfl (fun h => by cases h) (fun _ => ?_)
  refine wpC.skip ?_
  refine c_reg fun R hR => ?_
  refine o_pure hS (.inl rfl) rfl rfl ?_; clear hS
  intro tm hS
  refine o_pure hS (.inl rfl) rfl rfl ?_; clear hS
  intro tm hS
  refine o_pure hS (.inl rfl) rfl rfl ?_; clear hS
  intro tm hS
  obtain ⟨⟨r10, r11⟩, hx6, h0⟩ := bindS h0
  refine o_call hS (.inl rfl) rfl (fun wm' hw1 hw2 => wk86  a1 b1   (hS.sel hw2) hx6) (fun wm' res H hw' hp => ?_)
  obtain ⟨hres, hI⟩ := hp
  replace hres := hres.symm; subst hres
  replace hS : S wm 27 _ H ((21, .tuple #[.int .i64 r10, .bool r11]) :: _) ([] ++ _) Fr := hS.after rfl hw' hI
  clear hI hw'
  refine o_pure hS (.inl rfl) rfl rfl ?_; clear hS
  intro tm hS
  refine o_pure hS (.inl rfl) rfl rfl ?_; clear hS
  intro tm hS
  obtain ⟨⟨r12, r13⟩, hx7, h0⟩ := bindS h0
  refine o_call hS (.inl rfl) rfl (fun wm' hw1 hw2 => wk53  r10 r11   (hS.sel hw2) hx7) (fun wm' res H hw' hp => ?_)
  obtain ⟨hres, hI⟩ := hp
  replace hres := hres.symm; subst hres
  replace hS : S wm 27 _ H ((24, .tuple #[.int .i64 r12, .int .i64 r13]) :: _) ([] ++ _) Fr := hS.after rfl hw' hI
  clear hI hw'
  refine o_pure hS (.inl rfl) rfl rfl ?_; clear hS
  intro tm hS
  refine o_pure hS (.inl rfl) rfl rfl ?_; clear hS
  intro tm hS
  refine o_pure hS (.inl rfl) rfl rfl ?_; clear hS
  intro tm hS
  refine o_pure hS (.inl rfl) rfl rfl ?_; clear hS
  intro tm hS
  refine o_nil (hR _ _ ?_)
  clear hR R
  refine wpC.ret ?_
  obtain rfl := Option.some.inj h0
  refine Exists.intro _ (And.intro (rs_tmp hS rfl (rs_tmp hS rfl rs_nil)) ?_)
  have hI := hS.inv
  exact ⟨rfl, (hI.sub sn)⟩
 rw [lookT_no hk] at hS
 replace h0 := iteF hk h0
 clear hk
 rcases Bool.eq_false_or_eq_true (fn1 == str_195_183) with hk | hk
 ·rw [lookT_yes hk] at hS
  replace h0 := iteT hk h0
  clear hk
  refine o_pure hS (.inl rfl) rfl rfl ?_; clear hS
  intro tm hS
  refine o_pure hS (.inl rfl) rfl rfl ?_; clear hS
  intro tm hS
  refine o_pure hS (.inl rfl) rfl rfl ?_; clear hS
  intro tm hS
  refine o_pure hS (.inl rfl) rfl rfl ?_; clear hS
  intro tm hS
  refine o_pure hS (.inl rfl) rfl rfl ?_; clear hS
  intro tm hS
  refine o_nil (hR _ _ ?_)
  clear hR R
  refine c_seqS ?_
  refine c_reg fun R hR => ?_
  refine o_pure hS (.inl rfl) rfl rfl ?_; clear hS
  intro tm hS
  refine o_pure hS (.inl rfl) rfl rfl ?_; clear hS
  intro tm hS
  refine o_nil (hR _ _ ?_)
  clear hR R
  refine c_cond hS rfl (fun h => by cases h) (fun _ => ?_)
  refine wpC.skip ?_
  refine c_reg fun R hR => ?_
  refine o_pure hS (.inl rfl) rfl rfl ?_; clear hS
  intro tm hS
  refine o_pure hS (.inl rfl) rfl rfl ?_; clear hS
  intro tm hS
  refine o_pure hS (.inl rfl) rfl rfl ?_; clear hS
  intro tm hS
  obtain ⟨⟨r14, r15⟩, hx8, h0⟩ := bindS h0
  refine o_call hS (.inl rfl) rfl (fun wm' hw1 hw2 => wk87  a1 b1   (hS.sel hw2) hx8) (fun wm' res H hw' hp => ?_)
  obtain ⟨hres, hI⟩ := hp
  replace hres := hres.symm; subst hres
  replace hS : S wm 27 _ H ((21, .tuple #[.int .i64 r14, .bool r15]) :: _) ([] ++ _) Fr := hS.after rfl hw' hI
  clear hI hw'
  refine o_pure hS (.inl rfl) rfl rfl ?_; clear hS
  intro tm hS
  refine o_pure hS (.inl rfl) rfl rfl ?_; clear hS
  intro tm hS
  obtain ⟨⟨r16, r17⟩, hx9, h0⟩ := bindS h0
  refine o_call hS (.inl rfl) rfl (fun wm' hw1 hw2 => wk53  r14 r15   (hS.sel hw2) hx9) (fun wm' res H hw' hp => ?_)
  obtain ⟨hres, hI⟩ := hp
  replace hres := hres.symm; subst hres
  replace hS : S wm 27 _ H ((24, .tuple #[.int .i64 r16, .int .i64 r17]) :: _) ([] ++ _) Fr := hS.after rfl hw' hI
  clear hI hw'
  refine o_pure hS (.inl rfl) rfl rfl ?_; clear hS
  intro tm hS
  refine o_pure hS (.inl rfl) rfl rfl ?_; clear hS
  intro tm hS
  refine o_pure hS (.inl rfl) rfl rfl ?_; clear hS
  intro tm hS
  refine o_pure hS (.inl rfl) rfl rfl ?_; clear hS
  intro tm hS
  refine o_nil (hR _ _ ?_)
  clear hR R
  refine wpC.ret ?_
  obtain rfl := Option.some.inj h0
  refine Exists.intro _ (And.intro (rs_tmp hS rfl (rs_tmp hS rfl rs_nil)) ?_)
  have hI := hS.inv
  exact ⟨rfl, (hI.sub sn)⟩
 rw [lookT_no hk] at hS
 replace h0 := iteF hk h0
 clear hk
 rcases Bool.eq_false_or_eq_true (fn1 == str_42) with hk | hk
 ·rw [lookT_yes hk] at hS
  replace h0 := iteT hk h0
  clear hk
  refine o_pure hS (.inl rfl) rfl rfl ?_; clear hS
  intro tm hS
  refine o_pure hS (.inl rfl) rfl rfl ?_; clear hS
  intro tm hS
  refine o_pure hS (.inl rfl) rfl rfl ?_; clear hS
  intro tm hS
  refine o_pure hS (.inl rfl) rfl rfl ?_; clear hS
  intro tm hS
  refine o_pure hS (.inl rfl) rfl rfl ?_; clear hS
  intro tm hS
  refine o_nil (hR _ _ ?_)
  clear hR R
  refine c_seqS ?_
  refine c_reg fun R hR => ?_
  refine o_pure hS (.inl rfl) rfl rfl ?_; clear hS
  intro tm hS
  refine o_pure hS (.inl rfl) rfl rfl ?_; clear hS
  intro tm hS
  refine o_nil (hR _ _ ?_)
  clear hR R
  refine c_cond hS rfl (fun h => by cases h) (fun _ => ?_)
  refine wpC.skip ?_
  refine c_reg fun R hR => ?_
  refine o_pure hS (.inl rfl) rfl rfl ?_; clear hS
  intro tm hS
  refine o_pure hS (.inl rfl) rfl rfl ?_; clear hS
  intro tm hS
  refine o_pure hS (.inl rfl) rfl rfl ?_; clear hS
  intro tm hS
  obtain ⟨⟨r18, r19⟩, hx10, h0⟩ := bindS h0
  refine o_call hS (.inl rfl) rfl (fun wm' hw1 hw2 => wk88  a1 b1   (hS.sel hw2) hx10) (fun wm' res H hw' hp => ?_)
  obtain ⟨hres, hI⟩ := hp
  replace hres := hres.symm; subst hres
  replace hS : S wm 27 _ H ((21, .tuple #[.int .i64 r18, .bool r19]) :: _) ([] ++ _) Fr := hS.after rfl hw' hI
  clear hI hw'
  refine o_pure hS (.inl rfl) rfl rfl ?_; clear hS
  intro tm hS
  refine o_pure hS (.inl rfl) rfl rfl ?_; clear hS
  intro tm hS
  obtain ⟨⟨r20, r21⟩, hx11, h0⟩ := bindS h0
  refine o_call hS (.inl rfl) rfl (fun wm' hw1 hw2 => wk53  r18 r19   (hS.sel hw2) hx11) (fun wm' res H hw' hp => ?_)
  obtain ⟨hres, hI⟩ := hp
  replace hres := hres.symm; subst hres
  replace hS : S wm 27 _ H ((24, .tuple #[.int .i64 r20, .int .i64 r21]) :: _) ([] ++ _) Fr := hS.after rfl hw' hI
  clear hI hw'
  refine o_pure hS (.inl rfl) rfl rfl ?_; clear hS
  intro tm hS
  refine o_pure hS (.inl rfl) rfl rfl ?_; clear hS
  intro tm hS
  refine o_pure hS (.inl rfl) rfl rfl ?_; clear hS
  intro tm hS
  refine o_pure hS (.inl rfl) rfl rfl ?_; clear hS
  intro tm hS
  refine o_nil (hR _ _ ?_)
  clear hR R
  refine wpC.ret ?_
  obtain rfl := Option.some.inj h0
  refine Exists.intro _ (And.intro (rs_tmp hS rfl (rs_tmp hS rfl rs_nil)) ?_)
  have hI := hS.inv
  exact ⟨rfl, (hI.sub sn)⟩
 rw [lookT_no hk] at hS
 replace h0 := iteF hk h0
 clear hk
 rcases Bool.eq_false_or_eq_true (fn1 == str_124) with hk | hk
 ·rw [lookT_yes hk] at hS
  replace h0 := iteT hk h0
  clear hk
  refine o_pure hS (.inl rfl) rfl rfl ?_; clear hS
  intro tm hS
  refine o_pure hS (.inl rfl) rfl rfl ?_; clear hS
  intro tm hS
  refine o_pure hS (.inl rfl) rfl rfl ?_; clear hS
  intro tm hS
  refine o_pure hS (.inl rfl) rfl rfl ?_; clear hS
  intro tm hS
  refine o_pure hS (.inl rfl) rfl rfl ?_; clear hS
  intro tm hS
  refine o_nil (hR _ _ ?_)
  clear hR R
  refine c_seqS ?_
  refine c_reg fun R hR => ?_
  refine o_pure hS (.inl rfl) rfl rfl ?_; clear hS
  intro tm hS
  refine o_pure hS (.inl rfl) rfl rfl ?_; clear hS
  intro tm hS
  refine o_nil (hR _ _ ?_)
  clear hR R
  refine c_cond hS rfl (fun h => by cases h) (fun _ => ?_)
  refine wpC.skip ?_
  refine c_reg fun R hR => ?_
  refine o_pure hS (.inl rfl) rfl rfl ?_; clear hS
  intro tm hS
  refine o_pure hS (.inl rfl) rfl rfl ?_; clear hS
  intro tm hS
  refine o_pure hS (.inl rfl) rfl rfl ?_; clear hS
  intro tm hS
  obtain ⟨⟨r22, r23⟩, hx12, h0⟩ := bindS h0
  refine o_call hS (.inl rfl) rfl (fun wm' hw1 hw2 => wk89  a1 b1   (hS.sel hw2) hx12) (fun wm' res H hw' hp => ?_)
  obtain ⟨hres, hI⟩ := hp
  replace hres := hres.symm; subst hres
  replace hS : S wm 27 _ H ((21, .tuple #[.int .i64 r22, .bool r23]) :: _) ([] ++ _) Fr := hS.after rfl hw' hI
  clear hI hw'
  refine o_pure hS (.inl rfl) rfl rfl ?_; clear hS
  intro tm hS
  refine o_pure hS (.inl rfl) rfl rfl ?_; clear hS
  intro tm hS
  obtain ⟨⟨r24, r25⟩, hx13, h0⟩ := bindS h0
  refine o_call hS (.inl rfl) rfl (fun wm' hw1 hw2 => wk53  r22 r23   (hS.sel hw2) hx13) (fun wm' res H hw' hp => ?_)
  obtain ⟨hres, hI⟩ := hp
  replace hres := hres.symm; subst hres
  replace hS : S wm 27 _ H ((24, .tuple #[.int .i64 r24, .int .i64 r25]) :: _) ([] ++ _) Fr := hS.after rfl hw' hI
  clear hI hw'
  refine o_pure hS (.inl rfl) rfl rfl ?_; clear hS
  intro tm hS
  refine o_pure hS (.inl rfl) rfl rfl ?_; clear hS
  intro tm hS
  refine o_pure hS (.inl rfl) rfl rfl ?_; clear hS
  intro tm hS
  refine o_pure hS (.inl rfl) rfl rfl ?_; clear hS
  intro tm hS
  refine o_nil (hR _ _ ?_)
  clear hR R
  refine wpC.ret ?_
  obtain rfl := Option.some.inj h0
  refine Exists.intro _ (And.intro (rs_tmp hS rfl (rs_tmp hS rfl rs_nil)) ?_)
  have hI := hS.inv
  exact ⟨rfl, (hI.sub sn)⟩
 rw [lookT_no hk] at hS
 replace h0 := iteF hk h0
 clear hk
 rcases Bool.eq_false_or_eq_true (fn1 == str_33) with hk | hk
 ·rw [lookT_yes hk] at hS
  replace h0 := iteT hk h0
  clear hk
  refine o_pure hS (.inl rfl) rfl rfl ?_; clear hS
  intro tm hS
  refine o_pure hS (.inl rfl) rfl rfl ?_; clear hS
  intro tm hS
  refine o_pure hS (.inl rfl) rfl rfl ?_; clear hS
  intro tm hS
  refine o_pure hS (.inl rfl) rfl rfl ?_; clear hS
  intro tm hS
  refine o_pure hS (.inl rfl) rfl rfl ?_; clear hS
  intro tm hS
  refine o_nil (hR _ _ ?_)
  clear hR R
  refine c_seqS ?_
  refine c_reg fun R hR => ?_
  refine o_pure hS (.inl rfl) rfl rfl ?_; clear hS
  intro tm hS
  refine o_pure hS (.inl rfl) rfl rfl ?_; clear hS
  intro tm hS
  refine o_nil (hR _ _ ?_)
  clear hR R
  refine c_cond hS rfl (fun h => by cases h) (fun _ => ?_)
  refine wpC.skip ?_
  refine c_reg fun R hR => ?_
  refine o_pure hS (.inl rfl) rfl rfl ?_; clear hS
  intro tm hS
  refine o_pure hS (.inl rfl) rfl rfl ?_; clear hS
  intro tm hS
  refine o_pure hS (.inl rfl) rfl rfl ?_; clear hS
  intro tm hS
  obtain ⟨⟨r26, r27⟩, hx14, h0⟩ := bindS h0
  refine o_call hS (.inl rfl) rfl (fun wm' hw1 hw2 => wk90  a1 b1   (hS.sel hw2) hx14) (fun wm' res H hw' hp => ?_)
  obtain ⟨hres, hI⟩ := hp
  replace hres := hres.symm; subst hres
  replace hS : S wm 27 _ H ((21, .tuple #[.int .i64 r26, .bool r27]) :: _) ([] ++ _) Fr := hS.after rfl hw' hI
  clear hI hw'
  refine o_pure hS (.inl rfl) rfl rfl ?_; clear hS
  intro tm hS
  refine o_pure hS (.inl rfl) rfl rfl ?_; clear hS
  intro tm hS
  obtain ⟨⟨r28, r29⟩, hx15, h0⟩ := bindS h0
  refine o_call hS (.inl rfl) rfl (fun wm' hw1 hw2 => wk53  r26 r27   (hS.sel hw2) hx15) (fun wm' res H hw' hp => ?_)
  obtain ⟨hres, hI⟩ := hp
  replace hres := hres.symm; subst hres
  replace hS : S wm 27 _ H ((24, .tuple #[.int .i64 r28, .int .i64 r29]) :: _) ([] ++ _) Fr := hS.after rfl hw' hI
  clear hI hw'
  refine o_pure hS (.inl rfl) rfl rfl ?_; clear hS
  intro tm hS
  refine o_pure hS (.inl rfl) rfl rfl ?_; clear hS
  intro tm hS
  refine o_pure hS (.inl rfl) rfl rfl ?_; clear hS
  intro tm hS
  refine o_pure hS (.inl rfl) rfl rfl ?_; clear hS
  intro tm hS
  refine o_nil (hR _ _ ?_)
  clear hR R
  refine wpC.ret ?_
  obtain rfl := Option.some.inj h0
  refine Exists.intro _ (And.intro (rs_tmp hS rfl (rs_tmp hS rfl rs_nil)) ?_)
  have hI := hS.inv
  exact ⟨rfl, (hI.sub sn)⟩
 rw [lookT_no hk] at hS
 replace h0 := iteF hk h0
 clear hk
 rcases Bool.eq_false_or_eq_true (fn1 == str_226_140_136) with hk | hk
 ·rw [lookT_yes hk] at hS
  replace h0 := iteT hk h0
  clear hk
  refine o_pure hS (.inl rfl) rfl rfl ?_; clear hS
  intro tm hS
  refine o_pure hS (.inl rfl) rfl rfl ?_; clear hS
  intro tm hS
  refine o_pure hS (.inl rfl) rfl rfl ?_; clear hS
  intro tm hS
  refine o_pure hS (.inl rfl) rfl rfl ?_; clear hS
  intro tm hS
  refine o_pure hS (.inl rfl) rfl rfl ?_; clear hS
  intro tm hS
  refine o_nil (hR _ _ ?_)
  clear hR R
  refine c_seqS ?_
  refine c_reg fun R hR => ?_
  refine o_pure hS (.inl rfl) rfl rfl ?_; clear hS
  intro tm hS
  refine o_pure hS (.inl rfl) rfl rfl ?_; clear hS
  intro tm hS
  refine o_nil (hR _ _ ?_)
  clear hR R
  refine c_cond hS rfl (fun h => by cases h) (fun _ => ?_)
  refine wpC.skip ?_
  refine c_reg fun R hR => ?_
  refine o_pure hS (.inl rfl) rfl rfl ?_; clear hS
  intro tm hS
  refine o_pure hS (.inl rfl) rfl rfl ?_; clear hS
  intro tm hS
  refine o_pure hS (.inl rfl) rfl rfl ?_; clear hS
  intro tm hS
  obtain ⟨⟨r30, r31⟩, hx16, h0⟩ := bindS h0
  refine o_call hS (.inl rfl) rfl (fun wm' hw1 hw2 => wk91  a1 b1   (hS.sel hw2) hx16) (fun wm' res H hw' hp => ?_)
  obtain ⟨hres, hI⟩ := hp
  replace hres := hres.symm; subst hres
  replace hS : S wm 27 _ H ((21, .tuple #[.int .i64 r30, .bool r31]) :: _) ([] ++ _) Fr := hS.after rfl hw' hI
  clear hI hw'
  refine o_pure hS (.inl rfl) rfl rfl ?_; clear hS
  intro tm hS
  refine o_pure hS (.inl rfl) rfl rfl ?_; clear hS
  intro tm hS
  obtain ⟨⟨r32, r33⟩, hx17, h0⟩ := bindS h0
  refine o_call hS (.inl rfl) rfl (fun wm' hw1 hw2 => wk53  r30 r31   (hS.sel hw2) hx17) (fun wm' res H hw' hp => ?_)
  obtain ⟨hres, hI⟩ := hp
  replace hres := hres.symm; subst hres
  replace hS : S wm 27 _ H ((24, .tuple #[.int .i64 r32, .int .i64 r33]) :: _) ([] ++ _) Fr := hS.after rfl hw' hI
  clear hI hw'
  refine o_pure hS (.inl rfl) rfl rfl ?_; clear hS
  intro tm hS
  refine o_pure hS (.inl rfl) rfl rfl ?_; clear hS
  intro tm hS
  refine o_pure hS (.inl rfl) rfl rfl ?_; clear hS
  intro tm hS
  refine o_pure hS (.inl rfl) rfl rfl ?_; clear hS
  intro tm hS
  refine o_nil (hR _ _ ?_)
  clear hR R
  refine wpC.ret ?_
  obtain rfl := Option.some.inj h0
  refine Exists.intro _ (And.intro (rs_tmp hS rfl (rs_tmp hS rfl rs_nil)) ?_)
  have hI := hS.inv
  exact ⟨rfl, (hI.sub sn)⟩
 rw [lookT_no hk] at hS
 replace h0 := iteF hk h0
 clear hk
 rcases Bool.eq_false_or_eq_true (fn1 == str_226_140_138) with hk | hk
 ·rw [lookT_yes hk] at hS
  replace h0 := iteT hk h0
  clear hk
  refine o_pure hS (.inl rfl) rfl rfl ?_; clear hS
  intro tm hS
  refine o_pure hS (.inl rfl) rfl rfl ?_; clear hS
  intro tm hS
  refine o_pure hS (.inl rfl) rfl rfl ?_; clear hS
  intro tm hS
  refine o_pure hS (.inl rfl) rfl rfl ?_; clear hS
  intro tm hS
  refine o_pure hS (.inl rfl) rfl rfl ?_; clear hS
  intro tm hS
  refine o_nil (hR _ _ ?_)
  clear hR R
  refine c_seqS ?_
  refine c_reg fun R hR => ?_
  refine o_pure hS (.inl rfl) rfl rfl ?_; clear hS
  intro tm hS
  refine o_pure hS (.inl rfl) rfl rfl ?_; clear hS
  intro tm hS
  refine o_nil (hR _ _ ?_)
  clear hR R
  refine c_cond hS rfl (fun h => by cases h) (fun _ => ?_)
  refine wpC.skip ?_
  refine c_reg fun R hR => ?_
  refine o_pure hS (.inl rfl) rfl rfl ?_; clear hS
  intro tm hS
  refine o_pure hS (.inl rfl) rfl rfl ?_; clear hS
  intro tm hS
  refine o_pure hS (.inl rfl) rfl rfl ?_; clear hS
  intro tm hS
  obtain ⟨⟨r34, r35⟩, hx18, h0⟩ := bindS h0
  refine o_call hS (.inl rfl) rfl (fun wm' hw1 hw2 => wk92  a1 b1   (hS.sel hw2) hx18) (fun wm' res H hw' hp => ?_)
  obtain ⟨hres, hI⟩ := hp
  replace hres := hres.symm; subst hres
  replace hS : S wm 27 _ H ((21, .tuple #[.int .i64 r34, .bool r35]) :: _) ([] ++ _) Fr := hS.after rfl hw' hI
  clear hI hw'
  refine o_pure hS (.inl rfl) rfl rfl ?_; clear hS
  intro tm hS
  refine o_pure hS (.inl rfl) rfl rfl ?_; clear hS
  intro tm hS
  obtain ⟨⟨r36, r37⟩, hx19, h0⟩ := bindS h0
  refine o_call hS (.inl rfl) rfl (fun wm' hw1 hw2 => wk53  r34 r35   (hS.sel hw2) hx19) (fun wm' res H hw' hp => ?_)
  obtain ⟨hres, hI⟩ := hp
  replace hres := hres.symm; subst hres
  replace hS : S wm 27 _ H ((24, .tuple #[.int .i64 r36, .int .i64 r37]) :: _) ([] ++ _) Fr := hS.after rfl hw' hI
  clear hI hw'
  refine o_pure hS (.inl rfl) rfl rfl ?_; clear hS
  intro tm hS
  refine o_pure hS (.inl rfl) rfl rfl ?_; clear hS
  intro tm hS
  refine o_pure hS (.inl rfl) rfl rfl ?_; clear hS
  intro tm hS
  refine o_pure hS (.inl rfl) rfl rfl ?_; clear hS
  intro tm hS
  refine o_nil (hR _ _ ?_)
  clear hR R
  refine wpC.ret ?_
  obtain rfl := Option.some.inj h0
  refine Exists.intro _ (And.intro (rs_tmp hS rfl (rs_tmp hS rfl rs_nil)) ?_)
  have hI := hS.inv
  exact ⟨rfl, (hI.sub sn)⟩
 rw [lookT_no hk] at hS
 replace h0 := iteF hk h0
 clear hk
 rcases Bool.eq_false_or_eq_true (fn1 == str_60) with hk | hk
 ·rw [lookT_yes hk] at hS
  replace h0 := iteT hk h0
  clear hk
  refine o_pure hS (.inl rfl) rfl rfl ?_; clear hS
  intro tm hS
  refine o_pure hS (.inl rfl) rfl rfl ?_; clear hS
  intro tm hS
  refine o_pure hS (.inl rfl) rfl rfl ?_; clear hS
  intro tm hS
  refine o_pure hS (.inl rfl) rfl rfl ?_; clear hS
  intro tm hS
  refine o_pure hS (.inl rfl) rfl rfl ?_; clear hS
  intro tm hS
  refine o_nil (hR _ _ ?_)
  clear hR R
  refine c_seqS ?_
  refine c_reg fun R hR => ?_
  refine o_pure hS (.inl rfl) rfl rfl ?_; clear hS
  intro tm hS
  refine o_pure hS (.inl rfl) rfl rfl ?_; clear hS
  intro tm hS
  refine o_nil (hR _ _ ?_)
  clear hR R
  refine c_cond hS rfl (fun h => by cases h) (fun _ => ?_)
  refine wpC.skip ?_
  refine c_reg fun R hR => ?_
  refine o_pure hS (.inl rfl) rfl rfl ?_; clear hS
  intro tm hS
  refine o_pure hS (.inl rfl) rfl rfl ?_; clear hS
  intro tm hS
  refine o_pure hS (.inl rfl) rfl rfl ?_; clear hS
  intro tm hS
  obtain ⟨⟨r38, r39⟩, hx20, h0⟩ := bindS h0
  refine o_call hS (.inl rfl) rfl (fun wm' hw1 hw2 => wk93  a1 b1   (hS.sel hw2) hx20) (fun wm' res H hw' hp => ?_)
  obtain ⟨hres, hI⟩ := hp
  replace hres := hres.symm; subst hres
  replace hS : S wm 27 _ H ((21, .tuple #[.int .i64 r38, .bool r39]) :: _) ([] ++ _) Fr := hS.after rfl hw' hI
  clear hI hw'
  refine o_pure hS (.inl rfl) rfl rfl ?_; clear hS
  intro tm hS
  refine o_pure hS (.inl rfl) rfl rfl ?_; clear hS
  intro tm hS
  obtain ⟨⟨r40, r41⟩, hx21, h0⟩ := bindS h0
  refine o_call hS (.inl rfl) rfl (fun wm' hw1 hw2 => wk53  r38 r39   (hS.sel hw2) hx21) (fun wm' res H hw' hp => ?_)
  obtain ⟨hres, hI⟩ := hp
  replace hres := hres.symm; subst hres
  replace hS : S wm 27 _ H ((24, .tuple #[.int .i64 r40, .int .i64 r41]) :: _) ([] ++ _) Fr := hS.after rfl hw' hI
  clear hI hw'
  refine o_pure hS (.inl rfl) rfl rfl ?_; clear hS
  intro tm hS
  refine o_pure hS (.inl rfl) rfl rfl ?_; clear hS
  intro tm hS
  refine o_pure hS (.inl rfl) rfl rfl ?_; clear hS
  intro tm hS
  refine o_pure hS (.inl rfl) rfl rfl ?_; clear hS
  intro tm hS
  refine o_nil (hR _ _ ?_)
  clear hR R
  refine wpC.ret ?_
  obtain rfl := Option.some.inj h0
  refine Exists.intro _ (And.intro (rs_tmp hS rfl (rs_tmp hS rfl rs_nil)) ?_)
  have hI := hS.inv
  exact ⟨rfl, (hI.sub sn)⟩
 rw [lookT_no hk] at hS
 replace h0 := iteF hk h0
 clear hk
 rcases Bool.eq_false_or_eq_true (fn1 == str_226_137_164) with hk | hk
 ·rw [lookT_yes hk] at hS
  replace h0 := iteT hk h0
  clear hk
  refine o_pure hS (.inl rfl) rfl rfl ?_; clear hS
  intro tm hS
  refine o_pure hS (.inl rfl) rfl rfl ?_; clear hS
  intro tm hS
  refine o_pure hS (.inl rfl) rfl rfl ?_; clear hS
  intro tm hS
  refine o_pure hS (.inl rfl) rfl rfl ?_; clear hS
  intro tm hS
  refine o_pure hS (.inl rfl) rfl rfl ?_; clear hS
  intro tm hS
  refine o_nil (hR _ _ ?_)
  clear hR R
  refine c_seqS ?_
  refine c_reg fun R hR => ?_
  refine o_pure hS (.inl rfl) rfl rfl ?_; clear hS
  intro tm hS
  refine o_pure hS (.inl rfl) rfl rfl ?_; clear hS
  intro tm hS
  refine o_nil (hR _ _ ?_)
  clear hR R
  refine c_cond hS rfl (fun h => by cases h) (fun _ => ?_)
  refine wpC.skip ?_
  refine c_reg fun R hR => ?_
  refine o_pure hS (.inl rfl) rfl rfl ?_; clear hS
  intro tm hS
  refine o_pure hS (.inl rfl) rfl rfl ?_; clear hS
  intro tm hS
  refine o_pure hS (.inl rfl) rfl rfl ?_; clear hS
  intro tm hS
  obtain ⟨⟨r42, r43⟩, hx22, h0⟩ := bindS h0
  refine o_call hS (.inl rfl) rfl (fun wm' hw1 hw2 => wk95  a1 b1   (hS.sel hw2) hx22) (fun wm' res H hw' hp => ?_)
  obtain ⟨hres, hI⟩ := hp
  replace hres := hres.symm; subst hres
  replace hS : S wm 27 _ H ((21, .tuple #[.int .i64 r42, .bool r43]) :: _) ([] ++ _) Fr := hS.after rfl hw' hI
  clear hI hw'
  refine o_pure hS (.inl rfl) rfl rfl ?_; clear hS
  intro tm hS
  refine o_pure hS (.inl rfl) rfl rfl ?_; clear hS
  intro tm hS
  obtain ⟨⟨r44, r45⟩, hx23, h0⟩ := bindS h0
  refine o_call hS (.inl rfl) rfl (fun wm' hw1 hw2 => wk53  r42 r43   (hS.sel hw2) hx23) (fun wm' res H hw' hp => ?_)
  obtain ⟨hres, hI⟩ := hp
  replace hres := hres.symm; subst hres
  replace hS : S wm 27 _ H ((24, .tuple #[.int .i64 r44, .int .i64 r45]) :: _) ([] ++ _) Fr := hS.after rfl hw' hI
  clear hI hw'
  refine o_pure hS (.inl rfl) rfl rfl ?_; clear hS
  intro tm hS
  refine o_pure hS (.inl rfl) rfl rfl ?_; clear hS
  intro tm hS
  refine o_pure hS (.inl rfl) rfl rfl ?_; clear hS
  intro tm hS
  refine o_pure hS (.inl rfl) rfl rfl ?_; clear hS
  intro tm hS
  refine o_nil (hR _ _ ?_)
  clear hR R
  refine wpC.ret ?_
  obtain rfl := Option.some.inj h0
  refine Exists.intro _ (And.intro (rs_tmp hS rfl (rs_tmp hS rfl rs_nil)) ?_)
  have hI := hS.inv
  exact ⟨rfl, (hI.sub sn)⟩
 rw [lookT_no hk] at hS
 replace h0 := iteF hk h0
 clear hk
 rcases Bool.eq_false_or_eq_true (fn1 == str_61) with hk | hk
 ·rw [lookT_yes hk] at hS
  replace h0 := iteT hk h0
  clear hk
  refine o_pure hS (.inl rfl) rfl rfl ?_; clear hS
  intro tm hS
  refine o_pure hS (.inl rfl) rfl rfl ?_; clear hS
  intro tm hS
  refine o_pure hS (.inl rfl) rfl rfl ?_; clear hS
  intro tm hS
  refine o_pure hS (.inl rfl) rfl rfl ?_; clear hS
  intro tm hS
  refine o_pure hS (.inl rfl) rfl rfl ?_; clear hS
  intro tm hS
  refine o_nil (hR _ _ ?_)
  clear hR R
  refine c_seqS ?_
  refine c_reg fun R hR => ?_
  refine o_pure hS (.inl rfl) rfl rfl ?_; clear hS
  intro tm hS
  refine o_pure hS (.inl rfl) rfl rfl ?_; clear hS
  intro tm hS
  refine o_nil (hR _ _ ?_)
  clear hR R
  refine c_cond hS rfl (fun h => by cases h) (fun _ => ?_)
  refine wpC.skip ?_
  refine c_reg fun R hR => ?_
  refine o_pure hS (.inl rfl) rfl rfl ?_; clear hS
  intro tm hS
  refine o_pure hS (.inl rfl) rfl rfl ?_; clear hS
  intro tm hS
  refine o_pure hS (.inl rfl) rfl rfl ?_; clear hS
  intro tm hS
  obtain ⟨⟨r46, r47⟩, hx24, h0⟩ := bindS h0
  refine o_call hS (.inl rfl) rfl (fun wm' hw1 hw2 => wk96  a1 b1   (hS.sel hw2) hx24) (fun wm' res H hw' hp => ?_)
  obtain ⟨hres, hI⟩ := hp
  replace hres := hres.symm; subst hres
  replace hS : S wm 27 _ H ((21, .tuple #[.int .i64 r46, .bool r47]) :: _) ([] ++ _) Fr := hS.after rfl hw' hI
  clear hI hw'
  refine o_pure hS (.inl rfl) rfl rfl ?_; clear hS
  intro tm hS
  refine o_pure hS (.inl rfl) rfl rfl ?_; clear hS
  intro tm hS
  obtain ⟨⟨r48, r49⟩, hx25, h0⟩ := bindS h0
  refine o_call hS (.inl rfl) rfl (fun wm' hw1 hw2 => wk53  r46 r47   (hS.sel hw2) hx25) (fun wm' res H hw' hp => ?_)
  obtain ⟨hres, hI⟩ := hp
  replace hres := hres.symm; subst hres
  replace hS : S wm 27 _ H ((24, .tuple #[.int .i64 r48, .int .i64 r49]) :: _) ([] ++ _) Fr := hS.after rfl hw' hI
  clear hI hw'
  refine o_pure hS (.inl rfl) rfl rfl ?_; clear hS
  intro tm hS
  refine o_pure hS (.inl rfl) rfl rfl ?_; clear hS
  intro tm hS
  refine o_pure hS (.inl rfl) rfl rfl ?_; clear hS
  intro tm hS
  refine o_pure hS (.inl rfl) rfl rfl ?_; clear hS
  intro tm hS
  refine o_nil (hR _ _ ?_)
  clear hR R
  refine wpC.ret ?_
  obtain rfl := Option.some.inj h0
  refine Exists.intro _ (And.intro (rs_tmp hS rfl (rs_tmp hS rfl rs_nil)) ?_)
  have hI := hS.inv
  exact ⟨rfl, (hI.sub sn)⟩
 rw [lookT_no hk] at hS
 replace h0 := iteF hk h0
 clear hk
 rcases Bool.eq_false_or_eq_true (fn1 == str_226_137_165) with hk | hk
 ·rw [lookT_yes hk] at hS
  replace h0 := iteT hk h0
  clear hk
  refine o_pure hS (.inl rfl) rfl rfl ?_; clear hS
  intro tm hS
  refine o_pure hS (.inl rfl) rfl rfl ?_; clear hS
  intro tm hS
  refine o_pure hS (.inl rfl) rfl rfl ?_; clear hS
  intro tm hS
  refine o_pure hS (.inl rfl) rfl rfl ?_; clear hS
  intro tm hS
  refine o_pure hS (.inl rfl) rfl rfl ?_; clear hS
  intro tm hS
  refine o_nil (hR _ _ ?_)
  clear hR R
  refine c_seqS ?_
  refine c_reg fun R hR => ?_
  refine o_pure hS (.inl rfl) rfl rfl ?_; clear hS
  intro tm hS
  refine o_pure hS (.inl rfl) rfl rfl ?_; clear hS
  intro tm hS
  refine o_nil (hR _ _ ?_)
  clear hR R
  refine c_cond hS rfl (fun h => by cases h) (fun _ => ?_)
  refine wpC.skip ?_
  refine c_reg fun R hR => ?_
  refine o_pure hS (.inl rfl) rfl rfl ?_; clear hS
  intro tm hS
  refine o_pure hS (.inl rfl) rfl rfl ?_; clear hS
  intro tm hS
  refine o_pure hS (.inl rfl) rfl rfl ?_; clear hS
  intro tm hS
  obtain ⟨⟨r50, r51⟩, hx26, h0⟩ := bindS h0
  refine o_call hS (.inl rfl) rfl (fun wm' hw1 hw2 => wk97  a1 b1   (hS.sel hw2) hx26) (fun wm' res H hw' hp => ?_)
  obtain ⟨hres, hI⟩ := hp
  replace hres := hres.symm; subst hres
  replace hS : S wm 27 _ H ((21, .tuple #[.int .i64 r50, .bool r51]) :: _) ([] ++ _) Fr := hS.after rfl hw' hI
  clear hI hw'
  refine o_pure hS (.inl rfl) rfl rfl ?_; clear hS
  intro tm hS
  refine o_pure hS (.inl rfl) rfl rfl ?_; clear hS
  intro tm hS
  obtain ⟨⟨r52, r53⟩, hx27, h0⟩ := bindS h0
  refine o_call hS (.inl rfl) rfl (fun wm' hw1 hw2 => wk53  r50 r51   (hS.sel hw2) hx27) (fun wm' res H hw' hp => ?_)
  obtain ⟨hres, hI⟩ := hp
  replace hres := hres.symm; subst hres
  replace hS : S wm 27 _ H ((24, .tuple #[.int .i64 r52, .int .i64 r53]) :: _) ([] ++ _) Fr := hS.after rfl hw' hI
  clear hI hw'
  refine o_pure hS (.inl rfl) rfl rfl ?_; clear hS
  intro tm hS
  refine o_pure hS (.inl rfl) rfl rfl ?_; clear hS
  intro tm hS
  refine o_pure hS (.inl rfl) rfl rfl ?_; clear hS
  intro tm hS
  refine o_pure hS (.inl rfl) rfl rfl ?_; clear hS
  intro tm hS
  refine o_nil (hR _ _ ?_)
  clear hR R
  refine wpC.ret ?_
  obtain rfl := Option.some.inj h0
  refine Exists.intro _ (And.intro (rs_tmp hS rfl (rs_tmp hS rfl rs_nil)) ?_)
  have hI := hS.inv
  exact ⟨rfl, (hI.sub sn)⟩
 rw [lookT_no hk] at hS
 replace h0 := iteF hk h0
 clear hk
 rcases Bool.eq_false_or_eq_true (fn1 == str_62) with hk | hk
 ·rw [lookT_yes hk] at hS
  replace h0 := iteT hk h0
  clear hk
  refine o_pure hS (.inl rfl) rfl rfl ?_; clear hS
  intro tm hS
  refine o_pure hS (.inl rfl) rfl rfl ?_; clear hS
  intro tm hS
  refine o_pure hS (.inl rfl) rfl rfl ?_; clear hS
  intro tm hS
  refine o_pure hS (.inl rfl) rfl rfl ?_; clear hS
  intro tm hS
  refine o_pure hS (.inl rfl) rfl rfl ?_; clear hS
  intro tm hS
  refine o_nil (hR _ _ ?_)
  clear hR R
  refine c_seqS ?_
  refine c_reg fun R hR => ?_
  refine o_pure hS (.inl rfl) rfl rfl ?_; clear hS
  intro tm hS
  refine o_pure hS (.inl rfl) rfl rfl ?_; clear hS
  intro tm hS
  refine o_nil (hR _ _ ?_)
  clear hR R
  refine c_cond hS rfl (fun h => by cases h) (fun _ => ?_)
  refine wpC.skip ?_
  refine c_reg fun R hR => ?_
  refine o_pure hS (.inl rfl) rfl rfl ?_; clear hS
  intro tm hS
  refine o_pure hS (.inl rfl) rfl rfl ?_; clear hS
  intro tm hS
  refine o_pure hS (.inl rfl) rfl rfl ?_; clear hS
  intro tm hS
  obtain ⟨⟨r54, r55⟩, hx28, h0⟩ := bindS h0
  refine o_call hS (.inl rfl) rfl (fun wm' hw1 hw2 => wk98  a1 b1   (hS.sel hw2) hx28) (fun wm' res H hw' hp => ?_)
  obtain ⟨hres, hI⟩ := hp
  replace hres := hres.symm; subst hres
  replace hS : S wm 27 _ H ((21, .tuple #[.int .i64 r54, .bool r55]) :: _) ([] ++ _) Fr := hS.after rfl hw' hI
  clear hI hw'
  refine o_pure hS (.inl rfl) rfl rfl ?_; clear hS
  intro tm hS
  refine o_pure hS (.inl rfl) rfl rfl ?_; clear hS
  intro tm hS
  obtain ⟨⟨r56, r57⟩, hx29, h0⟩ := bindS h0
  refine o_call hS (.inl rfl) rfl (fun wm' hw1 hw2 => wk53  r54 r55   (hS.sel hw2) hx29) (fun wm' res H hw' hp => ?_)
  obtain ⟨hres, hI⟩ := hp
  replace hres := hres.symm; subst hres
  replace hS : S wm 27 _ H ((24, .tuple #[.int .i64 r56, .int .i64 r57]) :: _) ([] ++ _) Fr := hS.after rfl hw' hI
  clear hI hw'
  refine o_pure hS (.inl rfl) rfl rfl ?_; clear hS
  intro tm hS
  refine o_pure hS (.inl rfl) rfl rfl ?_; clear hS
  intro tm hS
  refine o_pure hS (.inl rfl) rfl rfl ?_; clear hS
  intro tm hS
  refine o_pure hS (.inl rfl) rfl rfl ?_; clear hS
  intro tm hS
  refine o_nil (hR _ _ ?_)
  clear hR R
  refine wpC.ret ?_
  obtain rfl := Option.some.inj h0
  refine Exists.intro _ (And.intro (rs_tmp hS rfl (rs_tmp hS rfl rs_nil)) ?_)
  have hI := hS.inv
  exact ⟨rfl, (hI.sub sn)⟩
 rw [lookT_no hk] at hS
 replace h0 := iteF hk h0
 clear hk
 rcases Bool.eq_false_or_eq_true (fn1 == str_226_137_160) with hk | hk
 ·rw [lookT_yes hk] at hS
  replace h0 := iteT hk h0
  clear hk
  refine o_pure hS (.inl rfl) rfl rfl ?_; clear hS
  intro tm hS
  refine o_pure hS (.inl rfl) rfl rfl ?_; clear hS
  intro tm hS
  refine o_pure hS (.inl rfl) rfl rfl ?_; clear hS
  intro tm hS
  refine o_pure hS (.inl rfl) rfl rfl ?_; clear hS
  intro tm hS
  refine o_pure hS (.inl rfl) rfl rfl ?_; clear hS
  intro tm hS
  refine o_nil (hR _ _ ?_)
  clear hR R
  refine c_seqS ?_
  refine c_reg fun R hR => ?_
  refine o_pure hS (.inl rfl) rfl rfl ?_; clear hS
  intro tm hS
  refine o_pure hS (.inl rfl) rfl rfl ?_; clear hS
  intro tm hS
  refine o_nil (hR _ _ ?_)
  clear hR R
  refine c_cond hS rfl (fun h => by cases h) (fun _ => ?_)
  refine wpC.skip ?_
  refine c_reg fun R hR => ?_
  refine o_pure hS (.inl rfl) rfl rfl ?_; clear hS
  intro tm hS
  refine o_pure hS (.inl rfl) rfl rfl ?_; clear hS
  intro tm hS
  refine o_pure hS (.inl rfl) rfl rfl ?_; clear hS
  intro tm hS
  obtain ⟨⟨r58, r59⟩, hx30, h0⟩ := bindS h0
  refine o_call hS (.inl rfl) rfl (fun wm' hw1 hw2 => wk99  a1 b1   (hS.sel hw2) hx30) (fun wm' res H hw' hp => ?_)
  obtain ⟨hres, hI⟩ := hp
  replace hres := hres.symm; subst hres
  replace hS : S wm 27 _ H ((21, .tuple #[.int .i64 r58, .bool r59]) :: _) ([] ++ _) Fr := hS.after rfl hw' hI
  clear hI hw'
  refine o_pure hS (.inl rfl) rfl rfl ?_; clear hS
  intro tm hS
  refine o_pure hS (.inl rfl) rfl rfl ?_; clear hS
  intro tm hS
  obtain ⟨⟨r60, r61⟩, hx31, h0⟩ := bindS h0
  refine o_call hS (.inl rfl) rfl (fun wm' hw1 hw2 => wk53  r58 r59   (hS.sel hw2) hx31) (fun wm' res H hw' hp => ?_)
  obtain ⟨hres, hI⟩ := hp
  replace hres := hres.symm; subst hres
  replace hS : S wm 27 _ H ((24, .tuple #[.int .i64 r60, .int .i64 r61]) :: _) ([] ++ _) Fr := hS.after rfl hw' hI
  clear hI hw'
  refine o_pure hS (.inl rfl) rfl rfl ?_; clear hS
  intro tm hS
  refine o_pure hS (.inl rfl) rfl rfl ?_; clear hS
  intro tm hS
  refine o_pure hS (.inl rfl) rfl rfl ?_; clear hS
  intro tm hS
  refine o_pure hS (.inl rfl) rfl rfl ?_; clear hS
  intro tm hS
  refine o_nil (hR _ _ ?_)
  clear hR R
  refine wpC.ret ?_
  obtain rfl := Option.some.inj h0
  refine Exists.intro _ (And.intro (rs_tmp hS rfl (rs_tmp hS rfl rs_nil)) ?_)
  have hI := hS.inv
  exact ⟨rfl, (hI.sub sn)⟩
 rw [lookT_no hk] at hS
 replace h0 := iteF hk h0
 clear hk
 rcases Bool.eq_false_or_eq_true (fn1 == str_226_136_167) with hk | hk
 ·rw [lookT_yes hk] at hS
  replace h0 := iteT hk h0
  clear hk
  refine o_pure hS (.inl rfl) rfl rfl ?_; clear hS
  intro tm hS
  refine o_pure hS (.inl rfl) rfl rfl ?_; clear hS
  intro tm hS
  refine o_pure hS (.inl rfl) rfl rfl ?_; clear hS
  intro tm hS
  refine o_pure hS (.inl rfl) rfl rfl ?_; clear hS
  intro tm hS
  refine o_pure hS (.inl rfl) rfl rfl ?_; clear hS
  intro tm hS
  refine o_nil (hR _ _ ?_)
  clear hR R
  refine c_seqS ?_
  refine c_reg fun R hR => ?_
  refine o_pure hS (.inl rfl) rfl rfl ?_; clear hS
  intro tm hS
  refine o_pure hS (.inl rfl) rfl rfl ?_; clear hS
  intro tm hS
  refine o_nil (hR _ _ ?_)
  clear hR R
  refine c_cond hS rfl (fun h => by cases h) (fun _ => ?_)
  refine wpC.skip ?_
  refine c_reg fun R hR => ?_
  refine o_pure hS (.inl rfl) rfl rfl ?_; clear hS
  intro tm hS
  refine o_pure hS (.inl rfl) rfl rfl ?_; clear hS
  intro tm hS
  refine o_pure hS (.inl rfl) rfl rfl ?_; clear hS
  intro tm hS
  obtain ⟨⟨r62, r63⟩, hx32, h0⟩ := bindS h0
  refine o_call hS (.inl rfl) rfl (fun wm' hw1 hw2 => wk100  a1 b1   (hS.sel hw2) hx32) (fun wm' res H hw' hp => ?_)
  obtain ⟨hres, hI⟩ := hp
  replace hres := hres.symm; subst hres
  replace hS : S wm 27 _ H ((21, .tuple #[.int .i64 r62, .bool r63]) :: _) ([] ++ _) Fr := hS.after rfl hw' hI
  clear hI hw'
  refine o_pure hS (.inl rfl) rfl rfl ?_; clear hS
  intro tm hS
  refine o_pure hS (.inl rfl) rfl rfl ?_; clear hS
  intro tm hS
  obtain ⟨⟨r64, r65⟩, hx33, h0⟩ := bindS h0
  refine o_call hS (.inl rfl) rfl (fun wm' hw1 hw2 => wk53  r62 r63   (hS.sel hw2) hx33) (fun wm' res H hw' hp => ?_)
  obtain ⟨hres, hI⟩ := hp
  replace hres := hres.symm; subst hres
  replace hS : S wm 27 _ H ((24, .tuple #[.int .i64 r64, .int .i64 r65]) :: _) ([] ++ _) Fr := hS.after rfl hw' hI
  clear hI hw'
  refine o_pure hS (.inl rfl) rfl rfl ?_; clear hS
  intro tm hS
  refine o_pure hS (.inl rfl) rfl rfl ?_; clear hS
  intro tm hS
  refine o_pure hS (.inl rfl) rfl rfl ?_; clear hS
  intro tm hS
  refine o_pure hS (.inl rfl) rfl rfl ?_; clear hS
  intro tm hS
  refine o_nil (hR _ _ ?_)
  clear hR R
  refine wpC.ret ?_
  obtain rfl := Option.some.inj h0
  refine Exists.intro _ (And.intro (rs_tmp hS rfl (rs_tmp hS rfl rs_nil)) ?_)
  have hI := hS.inv
  exact ⟨rfl, (hI.sub sn)⟩
 rw [lookT_no hk] at hS
 replace h0 := iteF hk h0
 clear hk
 rcases Bool.eq_false_or_eq_true (fn1 == str_226_136_168) with hk | hk
 ·rw [lookT_yes hk] at hS
  replace h0 := iteT hk h0
  clear hk
  refine o_pure hS (.inl rfl) rfl rfl ?_; clear hS
  intro tm hS
  refine o_pure hS (.inl rfl) rfl rfl ?_; clear hS
  intro tm hS
  refine o_pure hS (.inl rfl) rfl rfl ?_; clear hS
  intro tm hS
  refine o_pure hS (.inl rfl) rfl rfl ?_; clear hS
  intro tm hS
  refine o_pure hS (.inl rfl) rfl rfl ?_; clear hS
  intro tm hS
  refine o_nil (hR _ _ ?_)
  clear hR R
  refine c_seqS ?_
  refine c_reg fun R hR => ?_
  refine o_pure hS (.inl rfl) rfl rfl ?_; clear hS
  intro tm hS
  refine o_pure hS (.inl rfl) rfl rfl ?_; clear hS
  intro tm hS
  refine o_nil (hR _ _ ?_)
  clear hR R
  refine c_cond hS rfl (fun h => by cases h) (fun _ => ?_)
  refine wpC.skip ?_
  refine c_reg fun R hR => ?_
  refine o_pure hS (.inl rfl) rfl rfl ?_; clear hS
  intro tm hS
  refine o_pure hS (.inl rfl) rfl rfl ?_; clear hS
  intro tm hS
  refine o_pure hS (.inl rfl) rfl rfl ?_; clear hS
  intro tm hS
  obtain ⟨⟨r66, r67⟩, hx34, h0⟩ := bindS h0
  refine o_call hS (.inl rfl) rfl (fun wm' hw1 hw2 => wk102  a1 b1   (hS.sel hw2) hx34) (fun wm' res H hw' hp => ?_)
  obtain ⟨hres, hI⟩ := hp
  replace hres := hres.symm; subst hres
  replace hS : S wm 27 _ H ((21, .tuple #[.int .i64 r66, .bool r67]) :: _) ([] ++ _) Fr := hS.after rfl hw' hI
  clear hI hw'
  refine o_pure hS (.inl rfl) rfl rfl ?_; clear hS
  intro tm hS
  refine o_pure hS (.inl rfl) rfl rfl ?_; clear hS
  intro tm hS
  obtain ⟨⟨r68, r69⟩, hx35, h0⟩ := bindS h0
  refine o_call hS (.inl rfl) rfl (fun wm' hw1 hw2 => wk53  r66 r67   (hS.sel hw2) hx35) (fun wm' res H hw' hp => ?_)
  obtain ⟨hres, hI⟩ := hp
  replace hres := hres.symm; subst hres
  replace hS : S wm 27 _ H ((24, .tuple #[.int .i64 r68, .int .i64 r69]) :: _) ([] ++ _) Fr := hS.after rfl hw' hI
  clear hI hw'
  refine o_pure hS (.inl rfl) rfl rfl ?_; clear hS
  intro tm hS
  refine o_pure hS (.inl rfl) rfl rfl ?_; clear hS
  intro tm hS
  refine o_pure hS (.inl rfl) rfl rfl ?_; clear hS
  intro tm hS
  refine o_pure hS (.inl rfl) rfl rfl ?_; clear hS
  intro tm hS
  refine o_nil (hR _ _ ?_)
  clear hR R
  refine wpC.ret ?_
  obtain rfl := Option.some.inj h0
  refine Exists.intro _ (And.intro (rs_tmp hS rfl (rs_tmp hS rfl rs_nil)) ?_)
  have hI := hS.inv
  exact ⟨rfl, (hI.sub sn)⟩
 rw [lookT_no hk] at hS
 replace h0 := iteF hk h0
 clear hk
 rcases Bool.eq_false_or_eq_true (fn1 == str_226_141_178) with hk | hk
 ·rw [lookT_yes hk] at hS
  replace h0 := iteT hk h0
  clear hk
  refine o_pure hS (.inl rfl) rfl rfl ?_; clear hS
  intro tm hS
  refine o_pure hS (.inl rfl) rfl rfl ?_; clear hS
  intro tm hS
  refine o_pure hS (.inl rfl) rfl rfl ?_; clear hS
  intro tm hS
  refine o_pure hS (.inl rfl) rfl rfl ?_; clear hS
  intro tm hS
  refine o_pure hS (.inl rfl) rfl rfl ?_; clear hS
  intro tm hS
  refine o_nil (hR _ _ ?_)
  clear hR R
  refine c_seqS ?_
  refine c_reg fun R hR => ?_
  refine o_pure hS (.inl rfl) rfl rfl ?_; clear hS
  intro tm hS
  refine o_pure hS (.inl rfl) rfl rfl ?_; clear hS
  intro tm hS
  refine o_nil (hR _ _ ?_)
  clear hR R
  refine c_cond hS rfl (fun h => by cases h) (fun _ => ?_)
  refine wpC.skip ?_
  refine c_reg fun R hR => ?_
  refine o_pure hS (.inl rfl) rfl rfl ?_; clear hS
  intro tm hS
  refine o_pure hS (.inl rfl) rfl rfl ?_; clear hS
  intro tm hS
  refine o_pure hS (.inl rfl) rfl rfl ?_; clear hS
  intro tm hS
  obtain ⟨⟨r70, r71⟩, hx36, h0⟩ := bindS h0
  refine o_call hS (.inl rfl) rfl (fun wm' hw1 hw2 => wk103  a1 b1   (hS.sel hw2) hx36) (fun wm' res H hw' hp => ?_)
  obtain ⟨hres, hI⟩ := hp
  replace hres := hres.symm; subst hres
  replace hS : S wm 27 _ H ((21, .tuple #[.int .i64 r70, .bool r71]) :: _) ([] ++ _) Fr := hS.after rfl hw' hI
  clear hI hw'
  refine o_pure hS (.inl rfl) rfl rfl ?_; clear hS
  intro tm hS
  refine o_pure hS (.inl rfl) rfl rfl ?_; clear hS
  intro tm hS
  obtain ⟨⟨r72, r73⟩, hx37, h0⟩ := bindS h0
  refine o_call hS (.inl rfl) rfl (fun wm' hw1 hw2 => wk53  r70 r71   (hS.sel hw2) hx37) (fun wm' res H hw' hp => ?_)
  obtain ⟨hres, hI⟩ := hp
  replace hres := hres.symm; subst hres
  replace hS : S wm 27 _ H ((24, .tuple #[.int .i64 r72, .int .i64 r73]) :: _) ([] ++ _) Fr := hS.after rfl hw' hI
  clear hI hw'
  refine o_pure hS (.inl rfl) rfl rfl ?_; clear hS
  intro tm hS
  refine o_pure hS (.inl rfl) rfl rfl ?_; clear hS
  intro tm hS
  refine o_pure hS (.inl rfl) rfl rfl ?_; clear hS
  intro tm hS
  refine o_pure hS (.inl rfl) rfl rfl ?_; clear hS
  intro tm hS
  refine o_nil (hR _ _ ?_)
  clear hR R
  refine wpC.ret ?_
  obtain rfl := Option.some.inj h0
  refine Exists.intro _ (And.intro (rs_tmp hS rfl (rs_tmp hS rfl rs_nil)) ?_)
  have hI := hS.inv
  exact ⟨rfl, (hI.sub sn)⟩
 rw [lookT_no hk] at hS
 replace h0 := iteF hk h0
 clear hk
 rcases Bool.eq_false_or_eq_true (fn1 == str_226_141_177) with hk | hk
 ·rw [lookT_yes hk] at hS
  replace h0 := iteT hk h0
  clear hk
  refine o_pure hS (.inl rfl) rfl rfl ?_; clear hS
  intro tm hS
  refine o_pure hS (.inl rfl) rfl rfl ?_; clear hS
  intro tm hS
  refine o_pure hS (.inl rfl) rfl rfl ?_; clear hS
  intro tm hS
  refine o_pure hS (.inl rfl) rfl rfl ?_; clear hS
  intro tm hS
  refine o_pure hS (.inl rfl) rfl rfl ?_; clear hS
  intro tm hS
  refine o_nil (hR _ _ ?_)
  clear hR R
  refine c_seqS ?_
  refine c_reg fun R hR => ?_
  refine o_pure hS (.inl rfl) rfl rfl ?_; clear hS
  intro tm hS
  refine o_pure hS (.inl rfl) rfl rfl ?_; clear hS
  intro tm hS
  refine o_nil (hR _ _ ?_)
  clear hR R
  refine c_cond hS rfl (fun h => by cases h) (fun _ => ?_)
  refine wpC.skip ?_
  refine c_reg fun R hR => ?_
  refine o_pure hS (.inl rfl) rfl rfl ?_; clear hS
  intro tm hS
  refine o_pure hS (.inl rfl) rfl rfl ?_; clear hS
  intro tm hS
  refine o_pure hS (.inl rfl) rfl rfl ?_; clear hS
  intro tm hS
  obtain ⟨⟨r74, r75⟩, hx38, h0⟩ := bindS h0
  refine o_call hS (.inl rfl) rfl (fun wm' hw1 hw2 => wk104  a1 b1   (hS.sel hw2) hx38) (fun wm' res H hw' hp => ?_)
  obtain ⟨hres, hI⟩ := hp
  replace hres := hres.symm; subst hres
  replace hS : S wm 27 _ H ((21, .tuple #[.int .i64 r74, .bool r75]) :: _) ([] ++ _) Fr := hS.after rfl hw' hI
  clear hI hw'
  refine o_pure hS (.inl rfl) rfl rfl ?_; clear hS
  intro tm hS
  refine o_pure hS (.inl rfl) rfl rfl ?_; clear hS
  intro tm hS
  obtain ⟨⟨r76, r77⟩, hx39, h0⟩ := bindS h0
  refine o_call hS (.inl rfl) rfl (fun wm' hw1 hw2 => wk53  r74 r75   (hS.sel hw2) hx39) (fun wm' res H hw' hp => ?_)
  obtain ⟨hres, hI⟩ := hp
  replace hres := hres.symm; subst hres
  replace hS : S wm 27 _ H ((24, .tuple #[.int .i64 r76, .int .i64 r77]) :: _) ([] ++ _) Fr := hS.after rfl hw' hI
  clear hI hw'
  refine o_pure hS (.inl rfl) rfl rfl ?_; clear hS
  intro tm hS
  refine o_pure hS (.inl rfl) rfl rfl ?_; clear hS
  intro tm hS
  refine o_pure hS (.inl rfl) rfl rfl ?_; clear hS
  intro tm hS
  refine o_pure hS (.inl rfl) rfl rfl ?_; clear hS
  intro tm hS
  refine o_nil (hR _ _ ?_)
  clear hR R
  refine wpC.ret ?_
  obtain rfl := Option.some.inj h0
  refine Exists.intro _ (And.intro (rs_tmp hS rfl (rs_tmp hS rfl rs_nil)) ?_)
  have hI := hS.inv
  exact ⟨rfl, (hI.sub sn)⟩
 rw [lookT_no hk] at hS
 replace h0 := iteF hk h0
 clear hk
 rw [lookT_nil] at hS
 refine o_pure hS (.inl rfl) rfl rfl ?_; clear hS
 intro tm hS
 refine o_pure hS (.inl rfl) rfl rfl ?_; clear hS
 intro tm hS
 refine o_pure hS (.inl rfl) rfl rfl ?_; clear hS
 intro tm hS
 refine o_pure hS (.inl rfl) rfl rfl ?_; clear hS
 intro tm hS
 refine o_pure hS (.inl rfl) rfl rfl ?_; clear hS
 intro tm hS
 refine o_nil (hR _ _ ?_)
 clear hR R
 refine c_seqS ?_
 refine c_reg fun R hR => ?_
 refine o_pure hS (.inl rfl) rfl rfl ?_; clear hS
 intro tm hS
 refine o_pure hS (.inl rfl) rfl rfl ?_; clear hS
 intro tm hS
 refine o_nil (hR _ _ ?_)
 clear hR R
 refine c_cond hS rfl (fun _ => ?_) (fun h => by cases h)
 refine c_reg fun R hR => ?_
 refine o_pure hS (.inl rfl) rfl rfl ?_; clear hS
 intro tm hS
 refine o_pure hS (.inl rfl) rfl rfl ?_; clear hS
 intro tm hS
 refine o_nil (hR _ _ ?_)
 clear hR R
 refine wpC.ret ?_
 obtain rfl := Option.some.inj h0
 refine Exists.intro _ (And.intro (rs_tmp hS rfl (rs_tmp hS rfl rs_nil)) ?_)
 have hI := hS.inv
 exact ⟨rfl, (hI.sub sn)⟩
theorem wk83 {wm : Nat} {H : AHeap} {Fr : List Ent}  (v1 : Val) (k1 : Int)  (v2 : Value) (v3 : Value) (hI : Kn wm H [.fz (rI .i64) v2 v1.Shape, .fz (rI .i64) v3 v1.Data] Fr) {r : Int} (h0 : M.scalar_at v1 k1 = some r) :
  wpF Try.prog ora wm 83 [.agg #[.bool v1.Char, v2, v3], .int .i64 k1] H (fun res H => res = .int .i64 r ∧ Kn wm H [] Fr) := by
 unfold M.scalar_at at h0
 refine f_enter (n := 18) Try.func83 rfl (by simp) hI rfl rfl rfl fun tm hS => ?_
 clear hI
 refine c_reg fun R hR => ?_
 refine o_box hS (.inl rfl) rfl rfl rfl (all_cons rfl (all_cons (hS.one (k := 0) rfl (.inl rfl)) (all_cons (hS.one (k := 1) rfl (.inl rfl)) all_nil))) ?_; clear hS H
 intro b1 tm H hS
 refine o_pure hS (.inl rfl) rfl rfl ?_; clear hS
 intro tm hS
 refine o_nil (hR _ _ ?_)
 clear hR R
 refine c_seqS ?_
 refine c_reg fun R hR => ?_
 refine o_pure hS (.inl rfl) rfl rfl ?_; clear hS
 intro tm hS
 refine o_ld1 (k := 0) hS (.inl rfl) rfl rfl rfl (.inl rfl) Fu23 rfl rfl ?_; clear hS
 intro tm hS
 refine o_len (k := 2) (r := (rI .i64)) hS (.inl rfl) rfl rfl rfl (.inl rfl) Fu23 rfl ?_; clear hS
 intro tm hS
 refine o_pure hS (.inl rfl) rfl rfl ?_; clear hS
 intro tm hS
 refine o_nil (hR _ _ ?_)
 clear hR R
 refine c_cond hS rfl (fun hc => ?_) (fun hc => ?_)
 ·replace h0 := iteT hc h0
  refine c_reg fun R hR => ?_
  refine o_pure hS (.inl rfl) rfl rfl ?_; clear hS
  intro tm hS
  refine o_ld1 (k := 0) hS (.inl rfl) rfl rfl rfl (.inl rfl) Fu23 rfl rfl ?_; clear hS
  intro tm hS
  obtain ⟨y1, hx1, h0⟩ := bindS h0
  refine o_ixA (k := 2) (r := (rI .i64)) hS (.inl rfl) rfl rfl rfl rfl (.inl rfl) Fu23 Fs2 hx1 ?_; clear hS
  intro tm hS
  refine o_ldF (r := (rI .i64)) (k := 2) hS (.inl rfl) rfl rfl rfl (.inl rfl) hx1 Fu2 rfl (flat_I _) rfl ?_; clear hS
  intro tm hS
  refine o_pure hS (.inl rfl) rfl rfl ?_; clear hS
  intro tm hS
  refine o_nil (hR _ _ ?_)
  clear hR R
  refine wpC.ret ?_
  obtain rfl := Option.some.inj h0
  refine Exists.intro _ (And.intro (rs_tmp hS rfl rs_nil) ?_)
  have hI := hS.inv
  exact ⟨rfl, (hI.sub sn)⟩
 ·replace h0 := iteF hc h0
  refine wpC.skip ?_
  refine c_reg fun R hR => ?_
  refine o_pure hS (.inl rfl) rfl rfl ?_; clear hS
  intro tm hS
  refine o_ld1 (k := 0) hS (.inl rfl) rfl rfl rfl (.inl rfl) Fu23 rfl rfl ?_; clear hS
  intro tm hS
  refine o_pure hS (.inl rfl) rfl rfl ?_; clear hS
  intro tm hS
  obtain ⟨y2, hx2, h0⟩ := bindS h0
  refine o_ixA (k := 2) (r := (rI .i64)) hS (.inl rfl) rfl rfl rfl rfl (.inl rfl) Fu23 Fs2 hx2 ?_; clear hS
  intro tm hS
  refine o_ldF (r := (rI .i64)) (k := 2) hS (.inl rfl) rfl rfl rfl (.inl rfl) hx2 Fu2 rfl (flat_I _) rfl ?_; clear hS
  intro tm hS
  refine o_pure hS (.inl rfl) rfl rfl ?_; clear hS
  intro tm hS
  refine o_nil (hR _ _ ?_)
  clear hR R
  refine wpC.ret ?_
  obtain rfl := Option.some.inj h0
  refine Exists.intro _ (And.intro (rs_tmp hS rfl rs_nil) ?_)
  have hI := hS.inv
  exact ⟨rfl, (hI.sub sn)⟩
theorem wk51 {wm : Nat} {H : AHeap} {Fr : List Ent} (ho52 : ora 52 = false) (fn1 : ByteArray) (a1 : Val) (b1 : Val) (k1 : Int)  (v1 : Value) (v2 : Value) (v3 : Value) (v4 : Value) (hI : Kn wm H [.fz (rI .i64) v1 a1.Shape, .fz (rI .i64) v2 a1.Data, .fz (rI .i64) v3 b1.Shape, .fz (rI .i64) v4 b1.Data] Fr) {r : Int × Int} (h0 : M.scalar_of fn1 a1 b1 k1 = some r) :
  wpF Try.prog ora wm 51 [.string fn1, .agg #[.bool a1.Char, v1, v2], .agg #[.bool b1.Char, v3, v4], .int .i64 k1] H (fun res H => res = .tuple #[.int .i64 r.1, .int .i64 r.2] ∧ Kn wm H [] Fr) := by
 unfold M.scalar_of at h0
 refine f_enter (n := 29) Try.func51 rfl (by simp) hI rfl rfl rfl fun tm hS => ?_
 clear hI
 refine c_reg fun R hR => ?_
 refine o_box hS (.inl rfl) rfl rfl rfl (all_cons rfl (all_cons (hS.one (k := 0) rfl (.inl rfl)) (all_cons (hS.one (k := 1) rfl (.inl rfl)) all_nil))) ?_; clear hS H
 intro b2 tm H hS
 refine o_box hS (.inl rfl) rfl rfl rfl (all_cons rfl (all_cons (hS.one (k := 3) rfl (.inl rfl)) (all_cons (hS.one (k := 4) rfl (.inl rfl)) all_nil))) ?_; clear hS H
 intro b3 tm H hS
 refine o_pure hS (.inl rfl) rfl rfl ?_; clear hS
 intro tm hS
 refine o_pure hS (.inl rfl) rfl rfl ?_; clear hS
 intro tm hS
 refine o_nil (hR _ _ ?_)
 clear hR R
 refine c_seqS ?_
 refine c_reg fun R hR => ?_
 refine o_pure hS (.inl rfl) rfl rfl ?_; clear hS
 intro tm hS
 refine o_ld1 (k := 1) hS (.inl rfl) rfl rfl rfl (.inl rfl) Fu4 rfl rfl ?_; clear hS
 intro tm hS
 refine o_pure hS (.inl rfl) rfl rfl ?_; clear hS
 intro tm hS
 refine o_ld1 (k := 0) hS (.inl rfl) rfl rfl rfl (.inl rfl) Fu4 rfl rfl ?_; clear hS
 intro tm hS
 refine o_pure hS (.inl rfl) rfl rfl ?_; clear hS
 intro tm hS
 refine o_nil (hR _ _ ?_)
 clear hR R
 refine c_cond hS rfl (fun hc => ?_) (fun hc => ?_)
 ·replace h0 := iteT hc h0
  refine c_reg fun R hR => ?_
  refine o_pure hS (.inl rfl) rfl rfl ?_; clear hS
  intro tm hS
  obtain ⟨⟨r1, r2⟩, hx1, h0⟩ := bindS h0
  refine o_call hS (.inl rfl) rfl (fun wm' hw1 hw2 => wk15 ho52 fn1 0 1   (hS.sel hw2) hx1) (fun wm' res H hw' hp => ?_)
  obtain ⟨hres, hI⟩ := hp
  replace hres := hres.symm; subst hres
  replace hS : S wm 29 _ H ((16, .tuple #[.int .i64 r1, .int .i64 r2]) :: _) ([] ++ _) Fr := hS.after rfl hw' hI
  clear hI hw'
  refine o_pure hS (.inl rfl) rfl rfl ?_; clear hS
  intro tm hS
  refine o_pure hS (.inl rfl) rfl rfl ?_; clear hS
  intro tm hS
  refine o_pure hS (.inl rfl) rfl rfl ?_; clear hS
  intro tm hS
  refine o_pure hS (.inl rfl) rfl rfl ?_; clear hS
  intro tm hS
  refine o_nil (hR _ _ ?_)
  clear hR R
  refine wpC.ret ?_
  obtain rfl := Option.some.inj h0
  refine Exists.intro _ (And.intro (rs_tmp hS rfl (rs_tmp hS rfl rs_nil)) ?_)
  have hI := hS.inv
  exact ⟨rfl, (hI.sub sn)⟩
 ·replace h0 := iteF hc h0
  refine wpC.skip ?_
  refine c_reg fun R hR => ?_
  refine o_pure hS (.inl rfl) rfl rfl ?_; clear hS
  intro tm hS
  refine o_ldA (k := 1) hS (.inl rfl) rfl rfl rfl (.inl rfl) Fu27 rfl Fs27 rfl ?_; clear hS
  intro tm hS
  refine o_pure hS (.inl rfl) rfl rfl ?_; clear hS
  intro tm hS
  obtain ⟨r3, hx2, h0⟩ := bindS h0
  refine o_call hS (.inl rfl) rfl (fun wm' hw1 hw2 => wk83  a1 k1  v1 v2 (((hS.sel hw2).ad 3 rfl).ad 2 rfl) hx2) (fun wm' res H hw' hp => ?_)
  obtain ⟨hres, hI⟩ := hp
  replace hres := hres.symm; subst hres
  replace hS : S wm 29 _ H ((22, .int .i64 r3) :: _) ([] ++ _) Fr := hS.after rfl hw' hI
  clear hI hw'
  refine o_ldA (k := 0) hS (.inl rfl) rfl rfl rfl (.inl rfl) Fu27 rfl Fs27 rfl ?_; clear hS
  intro tm hS
  refine o_pure hS (.inl rfl) rfl rfl ?_; clear hS
  intro tm hS
  obtain ⟨r4, hx3, h0⟩ := bindS h0
  refine o_call hS (.inl rfl) rfl (fun wm' hw1 hw2 => wk83  b1 k1  v3 v4 (((hS.sel hw2).ad 5 rfl).ad 4 rfl) hx3) (fun wm' res H hw' hp => ?_)
  obtain ⟨hres, hI⟩ := hp
  replace hres := hres.symm; subst hres
  replace hS : S wm 29 _ H ((25, .int .i64 r4) :: _) ([] ++ _) Fr := hS.after rfl hw' hI
  clear hI hw'
  obtain ⟨⟨r5, r6⟩, hx4, h0⟩ := bindS h0
  refine o_call hS (.inl rfl) rfl (fun wm' hw1 hw2 => wk15 ho52 fn1 r3 r4   (hS.sel hw2) hx4) (fun wm' res H hw' hp => ?_)
  obtain ⟨hres, hI⟩ := hp
  replace hres := hres.symm; subst hres
  replace hS : S wm 29 _ H ((26, .tuple #[.int .i64 r5, .int .i64 r6]) :: _) ([] ++ _) Fr := hS.after rfl hw' hI
  clear hI hw'
  refine o_pure hS (.inl rfl) rfl rfl ?_; clear hS
  intro tm hS
  refine o_pure hS (.inl rfl) rfl rfl ?_; clear hS
  intro tm hS
  refine o_pure hS (.inl rfl) rfl rfl ?_; clear hS
  intro tm hS
  refine o_pure hS (.inl rfl) rfl rfl ?_; clear hS
  intro tm hS
  refine o_nil (hR _ _ ?_)
  clear hR R
  refine wpC.ret ?_
  obtain rfl := Option.some.inj h0
  refine Exists.intro _ (And.intro (rs_tmp hS rfl (rs_tmp hS rfl rs_nil)) ?_)
  have hI := hS.inv
  exact ⟨rfl, (hI.sub sn)⟩
theorem wk50 {wm : Nat} {H : AHeap} {Fr : List Ent} (ho52 : ora 52 = false) (k1 : Int) (x1 : ByteArray) (x2 : Val) (x3 : Val)  (b1 : Nat) (v1 : Value) (v2 : Value) (b2 : Nat) (v3 : Value) (v4 : Value) (b3 : Nat) (hI : Kn wm H [.fbox b1 [.string x1], .fz (rI .i64) v1 x2.Shape, .fz (rI .i64) v2 x2.Data, .fbox b2 [.bool x2.Char, v1, v2], .fz (rI .i64) v3 x3.Shape, .fz (rI .i64) v4 x3.Data, .fbox b3 [.bool x3.Char, v3, v4]] Fr) {r : Int × Int} (h0 : M.scalar_Dyad_1 k1 x1 x2 x3 = some r) :
  wpF Try.prog ora wm 50 [.int .i64 k1, .pointer (some ⟨b1, 0, none⟩), .pointer (some ⟨b2, 0, none⟩), .pointer (some ⟨b3, 0, none⟩)] H (fun res H => res = .tuple #[.int .i64 r.1, .int .i64 r.2] ∧ Kn wm H [] Fr) := by
 unfold M.scalar_Dyad_1 at h0
 refine f_enter (n := 14) Try.func50 rfl (by simp) hI rfl rfl rfl fun tm hS => ?_
 clear hI
 refine c_reg fun R hR => ?_
 refine o_pure hS (.inl rfl) rfl rfl ?_; clear hS
 intro tm hS
 refine o_pure hS (.inl rfl) rfl rfl ?_; clear hS
 intro tm hS
 refine o_nil (hR _ _ ?_)
 clear hR R
 refine c_reg fun R hR => ?_
 refine o_ld1 (k := 0) hS (.inl rfl) rfl rfl rfl (.inr rfl) Fu9 rfl rfl ?_; clear hS
 intro tm hS
 refine o_ldA (k := 3) hS (.inl rfl) rfl rfl rfl (.inr rfl) Fu27 rfl Fs27 rfl ?_; clear hS
 intro tm hS
 refine o_ldA (k := 6) hS (.inl rfl) rfl rfl rfl (.inr rfl) Fu27 rfl Fs27 rfl ?_; clear hS
 intro tm hS
 refine o_pure hS (.inl rfl) rfl rfl ?_; clear hS
 intro tm hS
 obtain ⟨⟨r1, r2⟩, hx1, h0⟩ := bindS h0
 refine o_call hS (.inl rfl) rfl (fun wm' hw1 hw2 => wk51 ho52 x1 x2 x3 k1  v1 v2 v3 v4 (((((hS.sel hw2).ad 5 rfl).ad 4 rfl).ad 2 rfl).ad 1 rfl) hx1) (fun wm' res H hw' hp => ?_)
 obtain ⟨hres, hI⟩ := hp
 replace hres := hres.symm; subst hres
 replace hS : S wm 14 _ H ((11, .tuple #[.int .i64 r1, .int .i64 r2]) :: _) ([] ++ _) Fr := hS.after rfl hw' hI
 clear hI hw'
 refine o_pure hS (.inl rfl) rfl rfl ?_; clear hS
 intro tm hS
 refine o_pure hS (.inl rfl) rfl rfl ?_; clear hS
 intro tm hS
 refine o_pure hS (.inl rfl) rfl rfl ?_; clear hS
 intro tm hS
 refine o_pure hS (.inl rfl) rfl rfl ?_; clear hS
 intro tm hS
 refine o_nil (hR _ _ ?_)
 clear hR R
 refine wpC.ret ?_
 obtain rfl := Option.some.inj h0
 refine Exists.intro _ (And.intro (rs_tmp hS rfl (rs_tmp hS rfl rs_nil)) ?_)
 have hI := hS.inv
 exact ⟨rfl, (hI.sub sn)⟩
theorem wk14 {wm : Nat} {H : AHeap} {Fr : List Ent} (ho52 : ora 52 = false) (fn1 : ByteArray) (a1 : Val) (b1 : Val)  (v1 : Value) (v2 : Value) (v3 : Value) (v4 : Value) (hI : Kn wm H [.fz (rI .i64) v1 a1.Shape, .fz (rI .i64) v2 a1.Data, .fz (rI .i64) v3 b1.Shape, .fz (rI .i64) v4 b1.Data] Fr) {r : Val × Int} (h0 : M.scalar_Dyad fn1 a1 b1 = some r) :
  wpF Try.prog ora wm 14 [.string fn1, .agg #[.bool a1.Char, v1, v2], .agg #[.bool b1.Char, v3, v4]] H (fun res H => ∃ v8 v9, res = .tuple #[.agg #[.bool r.1.Char, v8, v9], .int .i64 r.2] ∧ Kn wm H [.own (rI .i64) v8 r.1.Shape, .own (rI .i64) v9 r.1.Data] Fr) := by
 unfold M.scalar_Dyad at h0
 refine f_enter (n := 60) Try.func14 rfl (by simp) hI rfl rfl rfl fun tm hS => ?_
 clear hI
 refine c_reg fun R hR => ?_
 refine o_box hS (.inl rfl) rfl rfl rfl (all_cons rfl all_nil) ?_; clear hS H
 intro b2 tm H hS
 refine o_box hS (.inl rfl) rfl rfl rfl (all_cons rfl (all_cons (hS.one (k := 1) rfl (.inl rfl)) (all_cons (hS.one (k := 2) rfl (.inl rfl)) all_nil))) ?_; clear hS H
 intro b3 tm H hS
 refine o_box hS (.inl rfl) rfl rfl rfl (all_cons rfl (all_cons (hS.one (k := 4) rfl (.inl rfl)) (all_cons (hS.one (k := 5) rfl (.inl rfl)) all_nil))) ?_; clear hS H
 intro b4 tm H hS
 refine o_alloc hS (.inl rfl) rfl Fz27 (by decide) ?_; clear hS H
 intro b5 tm H hS
 refine o_pure hS (.inl rfl) rfl rfl ?_; clear hS
 intro tm hS
 refine o_nil (hR _ _ ?_)
 clear hR R
 refine c_seqS ?_
 refine wpC.block ?_
 refine c_reg fun R hR => ?_
 refine o_ld1 (k := 3) hS (.inl rfl) rfl rfl rfl (.inl rfl) Fu9 rfl rfl ?_; clear hS
 intro tm hS
 obtain ⟨r1, hx1, h0⟩ := bindS h0
 refine o_call hS (.inl rfl) rfl (fun wm' hw1 hw2 => wk43  fn1   (hS.sel hw2) hx1) (fun wm' res H hw' hp => ?_)
 obtain ⟨hres, hI⟩ := hp
 replace hres := hres.symm; subst hres
 replace hS : S wm 60 _ H ((13, .bool r1) :: _) ([] ++ _) Fr := hS.after rfl hw' hI
 clear hI hw'
 refine o_pure hS (.inl rfl) rfl rfl ?_; clear hS
 intro tm hS
 refine o_pure hS (.inl rfl) rfl rfl ?_; clear hS
 intro tm hS
 refine o_nil (hR _ _ ?_)
 clear hR R
 refine c_cond hS rfl (fun hc => ?_) (fun hc => ?_)
 ·replace h0 := iteT hc h0
  refine c_reg fun R hR => ?_
  refine o_build hS (.inl rfl) rfl Fb27 rfl .nil rfl ?_; clear hS
  intro tm hS
  refine o_st (k := 0) hS (.inl rfl) rfl rfl rfl Fs27 rfl rfl (all_cons rfl (all_cons rfl (all_cons rfl all_nil))) rfl ?_; clear hS; try clear H
  intro H hS
  refine o_pure hS (.inl rfl) rfl rfl ?_; clear hS
  intro tm hS
  refine o_nil (hR _ _ ?_)
  clear hR R
  refine wpC.ret ?_
  obtain rfl := Option.some.inj h0
  replace hS := hS.nilOwn (rI .i64)
  replace hS := hS.nilOwn (rI .i64)
  refine Exists.intro _ (And.intro (rs_cellA (k := 2) hS rfl rfl (.inl rfl) Fu27 rfl Fs27 rfl (rs_tmp hS rfl rs_nil)) ?_)
  have hI := hS.inv
  exact ⟨(.slice none 0 0), (.slice none 0 0), rfl, (((hI.pull 0 rfl).pull 1 rfl).take 2)⟩
 ·replace h0 := iteF hc h0
  refine c_reg fun R hR => ?_
  refine o_ldA (k := 2) hS (.inl rfl) rfl rfl rfl (.inl rfl) Fu27 rfl Fs27 rfl ?_; clear hS
  intro tm hS
  obtain ⟨r2, hx2, h0⟩ := bindS h0
  refine o_call hS (.inl rfl) rfl (fun wm' hw1 hw2 => wk16  a1  v1 v2 (((hS.sel hw2).ad 5 rfl).ad 4 rfl) hx2) (fun wm' res H hw' hp => ?_)
  obtain ⟨hres, hI⟩ := hp
  replace hres := hres.symm; subst hres
  replace hS : S wm 60 _ H ((18, .bool r2) :: _) ([] ++ _) Fr := hS.after rfl hw' hI
  clear hI hw'
  refine o_pure hS (.inl rfl) rfl rfl ?_; clear hS
  intro tm hS
  refine o_pure hS (.inl rfl) rfl rfl ?_; clear hS
  intro tm hS
  obtain ⟨c1, hc1, h0⟩ := bindS h0
  refine o_cutN 4 (J := fun tm H => S wm 60 tm H [(24, .bool c1), (3, .pointer (some ⟨b2, 0, none⟩)), (4, .pointer (some ⟨b3, 0, none⟩)), (5, .pointer (some ⟨b4, 0, none⟩)), (6, .pointer (some ⟨b5, 0, none⟩))] [.box b5 [.bool false, (.slice none 0 0), (.slice none 0 0)], .box b4 [.bool b1.Char, v3, v4], .box b3 [.bool a1.Char, v1, v2], .box b2 [.string fn1], .fz (rI .i64) v1 a1.Shape, .fz (rI .i64) v2 a1.Data, .fz (rI .i64) v3 b1.Shape, .fz (rI .i64) v4 b1.Data] Fr) ?_ ?_
  ·rcases Bool.eq_false_or_eq_true (!r2) with hg1 | hg1
   ·replace hc1 := iteT hg1 hc1
    refine o_skip hS rfl rfl rfl hg1 ?_; clear hS
    intro tm hS
    refine o_skip hS rfl rfl rfl hg1 ?_; clear hS
    intro tm hS
    refine o_skip hS rfl rfl rfl hg1 ?_; clear hS
    intro tm hS
    refine o_pickT hS (.inl rfl) rfl rfl hg1 rfl ?_; clear hS
    intro tm hS
    obtain rfl := Option.some.inj hc1
    exact o_nil (hS.keep (ka_cons rfl (ka_cons rfl (ka_cons rfl (ka_cons rfl (ka_cons rfl ka_nil))))) (fun hI => (hI.sub (sc (sc (sc (sc (sc (sc (sc (sc sn)))))))))))
   ·replace hc1 := iteF hg1 hc1
    refine o_ldA (k := 1) hS (.inr ⟨_, _, _, _, rfl, rfl, rfl, hg1⟩) rfl rfl rfl (.inl rfl) Fu27 rfl Fs27 rfl ?_; clear hS
    intro tm hS
    obtain ⟨r3, hx3, hc1⟩ := bindS hc1
    refine o_call hS (.inr ⟨_, _, _, _, rfl, rfl, rfl, hg1⟩) rfl (fun wm' hw1 hw2 => wk16  b1  v3 v4 (((hS.sel hw2).ad 7 rfl).ad 6 rfl) hx3) (fun wm' res H hw' hp => ?_)
    obtain ⟨hres, hI⟩ := hp
    replace hres := hres.symm; subst hres
    replace hS : S wm 60 _ H ((22, .bool r3) :: _) ([] ++ _) Fr := hS.after rfl hw' hI
    clear hI hw'
    refine o_pure hS (.inr ⟨_, _, _, _, rfl, rfl, rfl, hg1⟩) rfl rfl ?_; clear hS
    intro tm hS
    refine o_pickF hS (.inl rfl) rfl rfl hg1 rfl ?_; clear hS
    intro tm hS
    obtain rfl := Option.some.inj hc1
    exact o_nil (hS.keep (ka_cons rfl (ka_cons rfl (ka_cons rfl (ka_cons rfl (ka_cons rfl ka_nil))))) (fun hI => (hI.sub (sc (sc (sc (sc (sc (sc (sc (sc sn)))))))))))
  intro tm H hS
  refine o_pure hS (.inl rfl) rfl rfl ?_; clear hS
  intro tm hS
  refine o_nil (hR _ _ ?_)
  clear hR R
  refine c_cond hS rfl (fun hc => ?_) (fun hc => ?_)
  ·replace h0 := iteT hc h0
   refine c_reg fun R hR => ?_
   refine o_build hS (.inl rfl) rfl Fb27 rfl .nil rfl ?_; clear hS
   intro tm hS
   refine o_st (k := 0) hS (.inl rfl) rfl rfl rfl Fs27 rfl rfl (all_cons rfl (all_cons rfl (all_cons rfl all_nil))) rfl ?_; clear hS; try clear H
   intro H hS
   refine o_pure hS (.inl rfl) rfl rfl ?_; clear hS
   intro tm hS
   refine o_nil (hR _ _ ?_)
   clear hR R
   refine wpC.ret ?_
   obtain rfl := Option.some.inj h0
   replace hS := hS.nilOwn (rI .i64)
   replace hS := hS.nilOwn (rI .i64)
   refine Exists.intro _ (And.intro (rs_cellA (k := 2) hS rfl rfl (.inl rfl) Fu27 rfl Fs27 rfl (rs_tmp hS rfl rs_nil)) ?_)
   have hI := hS.inv
   exact ⟨(.slice none 0 0), (.slice none 0 0), rfl, (((hI.pull 0 rfl).pull 1 rfl).take 2)⟩
  ·replace h0 := iteF hc h0
   refine wpC.skip ?_
   refine c_reg fun R hR => ?_
   refine o_ldA (k := 2) hS (.inl rfl) rfl rfl rfl (.inl rfl) Fu27 rfl Fs27 rfl ?_; clear hS
   intro tm hS
   refine o_ldA (k := 1) hS (.inl rfl) rfl rfl rfl (.inl rfl) Fu27 rfl Fs27 rfl ?_; clear hS
   intro tm hS
   obtain ⟨⟨r4, r5, r6⟩, hx4, h0⟩ := bindS h0
   refine o_call hS (.inl rfl) rfl (fun wm' hw1 hw2 => wk48  a1 b1  v1 v2 v3 v4 (((((hS.sel hw2).ad 7 rfl).ad 6 rfl).ad 5 rfl).ad 4 rfl) hx4) (fun wm' res H hw' hp => ?_)
   obtain ⟨v5, hres, hI⟩ := hp
   replace hres := hres.symm; subst hres
   replace hS : S wm 60 _ H ((29, .tuple #[v5, .int .i64 r5, .int .i64 r6]) :: _) ([.fz (rI .i64) v5 r4] ++ _) Fr := hS.after rfl hw' hI
   clear hI hw'
   refine o_pure hS (.inl rfl) rfl rfl ?_; clear hS
   intro tm hS
   refine o_pure hS (.inl rfl) rfl rfl ?_; clear hS
   intro tm hS
   refine o_pure hS (.inl rfl) rfl rfl ?_; clear hS
   intro tm hS
   refine o_pure hS (.inl rfl) rfl rfl ?_; clear hS
   intro tm hS
   refine o_pure hS (.inl rfl) rfl rfl ?_; clear hS
   intro tm hS
   refine o_pure hS (.inl rfl) rfl rfl ?_; clear hS
   intro tm hS
   refine o_pure hS (.inl rfl) rfl rfl ?_; clear hS
   intro tm hS
   refine o_nil (hR _ _ ?_)
   clear hR R
   refine c_seqS ?_
   refine wpC.block ?_
   refine c_reg fun R hR => ?_
   refine o_pure hS (.inl rfl) rfl rfl ?_; clear hS
   intro tm hS
   refine o_pure hS (.inl rfl) rfl rfl ?_; clear hS
   intro tm hS
   refine o_pure hS (.inl rfl) rfl rfl ?_; clear hS
   intro tm hS
   refine o_nil (hR _ _ ?_)
   clear hR R
   refine c_cond hS rfl (fun hc => ?_) (fun hc => ?_)
   ·replace h0 := iteT hc h0
    refine c_reg fun R hR => ?_
    refine o_build hS (.inl rfl) rfl Fb27 rfl .nil rfl ?_; clear hS
    intro tm hS
    refine o_pure hS (.inl rfl) rfl rfl ?_; clear hS
    intro tm hS
    refine o_st (k := 1) hS (.inl rfl) rfl rfl rfl Fs27 rfl rfl (all_cons rfl (all_cons rfl (all_cons rfl all_nil))) rfl ?_; clear hS; try clear H
    intro H hS
    refine o_pure hS (.inl rfl) rfl rfl ?_; clear hS
    intro tm hS
    refine o_nil (hR _ _ ?_)
    clear hR R
    refine wpC.ret ?_
    obtain rfl := Option.some.inj h0
    replace hS := hS.nilOwn (rI .i64)
    replace hS := hS.nilOwn (rI .i64)
    refine Exists.intro _ (And.intro (rs_cellA (k := 3) hS rfl rfl (.inl rfl) Fu27 rfl Fs27 rfl (rs_tmp hS rfl rs_nil)) ?_)
    have hI := hS.inv
    exact ⟨(.slice none 0 0), (.slice none 0 0), rfl, (((hI.pull 0 rfl).pull 1 rfl).take 2)⟩
   ·replace h0 := iteF hc h0
    refine c_reg fun R hR => ?_
    refine o_pure hS (.inl rfl) rfl rfl ?_; clear hS
    intro tm hS
    refine o_ld1 (k := 3) hS (.inl rfl) rfl rfl rfl (.inl rfl) Fu4 rfl rfl ?_; clear hS
    intro tm hS
    refine o_pure hS (.inl rfl) rfl rfl ?_; clear hS
    intro tm hS
    obtain ⟨c2, hc2⟩ : ∃ x : Bool, x = (a1.Char || b1.Char) := ⟨_, rfl⟩
    refine o_cutN 3 (J := fun tm H => S wm 60 tm H [(44, .bool c2), (3, .pointer (some ⟨b2, 0, none⟩)), (4, .pointer (some ⟨b3, 0, none⟩)), (5, .pointer (some ⟨b4, 0, none⟩)), (6, .pointer (some ⟨b5, 0, none⟩)), (8, v5), (9, .int .i64 r5)] [.fz (rI .i64) v5 r4, .box b5 [.bool false, (.slice none 0 0), (.slice none 0 0)], .box b4 [.bool b1.Char, v3, v4], .box b3 [.bool a1.Char, v1, v2], .box b2 [.string fn1], .fz (rI .i64) v1 a1.Shape, .fz (rI .i64) v2 a1.Data, .fz (rI .i64) v3 b1.Shape, .fz (rI .i64) v4 b1.Data] Fr) ?_ ?_
    ·rcases Bool.eq_false_or_eq_true a1.Char with hg2 | hg2
     ·refine o_skip hS rfl rfl rfl hg2 ?_; clear hS
      intro tm hS
      refine o_skip hS rfl rfl rfl hg2 ?_; clear hS
      intro tm hS
      refine o_pickT hS (.inl rfl) rfl rfl hg2 rfl ?_; clear hS
      intro tm hS
      have hc2 : c2 = true := hc2.trans (by rw [hg2]; first | rfl | simp)
      subst hc2
      exact o_nil (hS.keep (ka_cons rfl (ka_cons rfl (ka_cons rfl (ka_cons rfl (ka_cons rfl (ka_cons rfl (ka_cons rfl ka_nil))))))) (fun hI => (hI.sub (sc (sc (sc (sc (sc (sc (sc (sc (sc sn))))))))))))
     ·refine o_pure hS (.inr ⟨_, _, _, _, rfl, rfl, rfl, hg2⟩) rfl rfl ?_; clear hS
      intro tm hS
      refine o_ld1 (k := 2) hS (.inr ⟨_, _, _, _, rfl, rfl, rfl, hg2⟩) rfl rfl rfl (.inl rfl) Fu4 rfl rfl ?_; clear hS
      intro tm hS
      refine o_pickF hS (.inl rfl) rfl rfl hg2 rfl ?_; clear hS
      intro tm hS
      have hc2 : c2 = b1.Char := hc2.trans (by rw [hg2]; first | rfl | simp)
      subst hc2
      exact o_nil (hS.keep (ka_cons rfl (ka_cons rfl (ka_cons rfl (ka_cons rfl (ka_cons rfl (ka_cons rfl (ka_cons rfl ka_nil))))))) (fun hI => (hI.sub (sc (sc (sc (sc (sc (sc (sc (sc (sc sn))))))))))))
    intro tm H hS
    subst hc2
    refine o_pure hS (.inl rfl) rfl rfl ?_; clear hS
    intro tm hS
    obtain ⟨c3, hc3⟩ : ∃ x : Bool, x = ((a1.Char || b1.Char) && (!(fn1.toList == str_61.toList))) := ⟨_, rfl⟩
    refine o_cutN 3 (J := fun tm H => S wm 60 tm H [(48, .bool c3), (3, .pointer (some ⟨b2, 0, none⟩)), (4, .pointer (some ⟨b3, 0, none⟩)), (5, .pointer (some ⟨b4, 0, none⟩)), (6, .pointer (some ⟨b5, 0, none⟩)), (8, v5), (9, .int .i64 r5)] [.fz (rI .i64) v5 r4, .box b5 [.bool false, (.slice none 0 0), (.slice none 0 0)], .box b4 [.bool b1.Char, v3, v4], .box b3 [.bool a1.Char, v1, v2], .box b2 [.string fn1], .fz (rI .i64) v1 a1.Shape, .fz (rI .i64) v2 a1.Data, .fz (rI .i64) v3 b1.Shape, .fz (rI .i64) v4 b1.Data] Fr) ?_ ?_
    ·rcases Bool.eq_false_or_eq_true (a1.Char || b1.Char) with hg3 | hg3
     ·refine o_ld1 (k := 4) hS (.inr ⟨_, _, _, _, rfl, rfl, rfl, hg3⟩) rfl rfl rfl (.inl rfl) Fu9 rfl rfl ?_; clear hS
      intro tm hS
      refine o_pure hS (.inr ⟨_, _, _, _, rfl, rfl, rfl, hg3⟩) rfl rfl ?_; clear hS
      intro tm hS
      refine o_pickT hS (.inl rfl) rfl rfl hg3 rfl ?_; clear hS
      intro tm hS
      have hc3 : c3 = (!(fn1.toList == str_61.toList)) := hc3.trans (by rw [hg3]; first | rfl | simp)
      subst hc3
      exact o_nil (hS.keep (ka_cons rfl (ka_cons rfl (ka_cons rfl (ka_cons rfl (ka_cons rfl (ka_cons rfl (ka_cons rfl ka_nil))))))) (fun hI => (hI.sub (sc (sc (sc (sc (sc (sc (sc (sc (sc sn))))))))))))
     ·refine o_skip hS rfl rfl rfl hg3 ?_; clear hS
      intro tm hS
      refine o_skip hS rfl rfl rfl hg3 ?_; clear hS
      intro tm hS
      refine o_pickF hS (.inl rfl) rfl rfl hg3 rfl ?_; clear hS
      intro tm hS
      have hc3 : c3 = false := hc3.trans (by rw [hg3]; first | rfl | simp)
      subst hc3
      exact o_nil (hS.keep (ka_cons rfl (ka_cons rfl (ka_cons rfl (ka_cons rfl (ka_cons rfl (ka_cons rfl (ka_cons rfl ka_nil))))))) (fun hI => (hI.sub (sc (sc (sc (sc (sc (sc (sc (sc (sc sn))))))))))))
    intro tm H hS
    subst hc3
    refine o_pure hS (.inl rfl) rfl rfl ?_; clear hS
    intro tm hS
    obtain ⟨c4, hc4⟩ : ∃ x : Bool, x = (((a1.Char || b1.Char) && (!(fn1.toList == str_61.toList))) && (!(fn1.toList == str_226_137_160.toList))) := ⟨_, rfl⟩
    refine o_cutN 3 (J := fun tm H => S wm 60 tm H [(52, .bool c4), (3, .pointer (some ⟨b2, 0, none⟩)), (4, .pointer (some ⟨b3, 0, none⟩)), (5, .pointer (some ⟨b4, 0, none⟩)), (6, .pointer (some ⟨b5, 0, none⟩)), (8, v5), (9, .int .i64 r5)] [.fz (rI .i64) v5 r4, .box b5 [.bool false, (.slice none 0 0), (.slice none 0 0)], .box b4 [.bool b1.Char, v3, v4], .box b3 [.bool a1.Char, v1, v2], .box b2 [.string fn1], .fz (rI .i64) v1 a1.Shape, .fz (rI .i64) v2 a1.Data, .fz (rI .i64) v3 b1.Shape, .fz (rI .i64) v4 b1.Data] Fr) ?_ ?_
    ·rcases Bool.eq_false_or_eq_true ((a1.Char || b1.Char) && (!(fn1.toList == str_61.toList))) with hg4 | hg4
     ·refine o_ld1 (k := 4) hS (.inr ⟨_, _, _, _, rfl, rfl, rfl, hg4⟩) rfl rfl rfl (.inl rfl) Fu9 rfl rfl ?_; clear hS
      intro tm hS
      refine o_pure hS (.inr ⟨_, _, _, _, rfl, rfl, rfl, hg4⟩) rfl rfl ?_; clear hS
      intro tm hS
      refine o_pickT hS (.inl rfl) rfl rfl hg4 rfl ?_; clear hS
      intro tm hS
      have hc4 : c4 = (!(fn1.toList == str_226_137_160.toList)) := hc4.trans (by rw [hg4]; first | rfl | simp)
      subst hc4
      exact o_nil (hS.keep (ka_cons rfl (ka_cons rfl (ka_cons rfl (ka_cons rfl (ka_cons rfl (ka_cons rfl (ka_cons rfl ka_nil))))))) (fun hI => (hI.sub (sc (sc (sc (sc (sc (sc (sc (sc (sc sn))))))))))))
     ·refine o_skip hS rfl rfl rfl hg4 ?_; clear hS
      intro tm hS
      refine o_skip hS rfl rfl rfl hg4 ?_; clear hS
      intro tm hS
      refine o_pickF hS (.inl rfl) rfl rfl hg4 rfl ?_; clear hS
      intro tm hS
      have hc4 : c4 = false := hc4.trans (by rw [hg4]; first | rfl | simp)
      subst hc4
      exact o_nil (hS.keep (ka_cons rfl (ka_cons rfl (ka_cons rfl (ka_cons rfl (ka_cons rfl (ka_cons rfl (ka_cons rfl ka_nil))))))) (fun hI => (hI.sub (sc (sc (sc (sc (sc (sc (sc (sc (sc sn))))))))))))
    intro tm H hS
    subst hc4
    refine o_pure hS (.inl rfl) rfl rfl ?_; clear hS
    intro tm hS
    refine o_nil (hR _ _ ?_)
    clear hR R
    refine c_cond hS rfl (fun hc => ?_) (fun hc => ?_)
    ·replace h0 := iteT hc h0
     refine c_reg fun R hR => ?_
     refine o_build hS (.inl rfl) rfl Fb27 rfl .nil rfl ?_; clear hS
     intro tm hS
     refine o_st (k := 1) hS (.inl rfl) rfl rfl rfl Fs27 rfl rfl (all_cons rfl (all_cons rfl (all_cons rfl all_nil))) rfl ?_; clear hS; try clear H
     intro H hS
     refine o_pure hS (.inl rfl) rfl rfl ?_; clear hS
     intro tm hS
     refine o_nil (hR _ _ ?_)
     clear hR R
     refine wpC.ret ?_
     obtain rfl := Option.some.inj h0
     replace hS := hS.nilOwn (rI .i64)
     replace hS := hS.nilOwn (rI .i64)
     refine Exists.intro _ (And.intro (rs_cellA (k := 3) hS rfl rfl (.inl rfl) Fu27 rfl Fs27 rfl (rs_tmp hS rfl rs_nil)) ?_)
     have hI := hS.inv
     exact ⟨(.slice none 0 0), (.slice none 0 0), rfl, (((hI.pull 0 rfl).pull 1 rfl).take 2)⟩
    ·replace h0 := iteF hc h0
     refine wpC.skip ?_
     refine c_reg fun R hR => ?_
     refine o_pure hS (.inl rfl) rfl rfl ?_; clear hS
     intro tm hS
     refine o_pure hS (.inl rfl) rfl rfl ?_; clear hS
     intro tm hS
     refine o_pure hS (.inl rfl) rfl rfl ?_; clear hS
     intro tm hS
     replace hS := hS.frzBox (k := 4) rfl
     replace hS := hS.frzBox (k := 3) rfl
     replace hS := hS.frzBox (k := 2) rfl
     obtain ⟨⟨r7, r8⟩, hx5, h0⟩ := bindS h0
     refine o_call hS (.inl rfl) rfl (fun wm' hw1 hw2 => wk49  r4 r5 (fun x0 => M.scalar_Dyad_1 x0 fn1 a1 b1) 50 #[.pointer (some ⟨b2, 0, none⟩), .pointer (some ⟨b3, 0, none⟩), .pointer (some ⟨b4, 0, none⟩)] [.fbox b2 [.string fn1], .fz (rI .i64) v1 a1.Shape, .fz (rI .i64) v2 a1.Data, .fbox b3 [.bool a1.Char, v1, v2], .fz (rI .i64) v3 b1.Shape, .fz (rI .i64) v4 b1.Data, .fbox b4 [.bool b1.Char, v3, v4]] (by simp [Ent.blk]) (fun x0 hI _ h0 => wk50 ho52 x0 fn1 a1 b1  b2 v1 v2 b3 v3 v4 b4 hI h0) v5 (((((((((hS.sel hw2).adB 2 rfl).ad 8 rfl).ad 7 rfl).adB 3 rfl).ad 6 rfl).ad 5 rfl).adB 4 rfl).ad 0 rfl) hx5) (fun wm' res H hw' hp => ?_)
     obtain ⟨v6, v7, hres, hI⟩ := hp
     replace hres := hres.symm; subst hres
     replace hS : S wm 60 _ H ((57, .tuple #[.agg #[.bool r7.Char, v6, v7], .int .i64 r8]) :: _) ([.own (rI .i64) v6 r7.Shape, .own (rI .i64) v7 r7.Data] ++ _) Fr := hS.after rfl hw' hI
     clear hI hw'
     refine o_pure hS (.inl rfl) rfl rfl ?_; clear hS
     intro tm hS
     refine o_pure hS (.inl rfl) rfl rfl ?_; clear hS
     intro tm hS
     refine o_st (k := 3) hS (.inl rfl) rfl rfl rfl Fs27 rfl rfl (all_cons rfl (all_cons (hS.one (k := 0) rfl (.inr (.inl rfl))) (all_cons (hS.one (k := 1) rfl (.inr (.inl rfl))) all_nil))) rfl ?_; clear hS; try clear H
     intro H hS
     refine o_pure hS (.inl rfl) rfl rfl ?_; clear hS
     intro tm hS
     refine o_nil (hR _ _ ?_)
     clear hR R
     refine wpC.ret ?_
     obtain rfl := Option.some.inj h0
     refine Exists.intro _ (And.intro (rs_cellA (k := 3) hS rfl rfl (.inl rfl) Fu27 rfl Fs27 rfl (rs_tmp hS rfl rs_nil)) ?_)
     have hI := hS.inv
     exact ⟨v6, v7, rfl, (hI.sub (sc (sc sn)))⟩
theorem wk79 {wm : Nat} {H : AHeap} {Fr : List Ent}  (a1 : (List Int)) (b1 : (List Int))  (v1 : Value) (v2 : Value) (hI : Kn wm H [.fz (rI .i64) v1 a1, .fz (rI .i64) v2 b1] Fr) {r : Bool} (h0 : M.anamnesisref06_like a1 b1 = some r) :
  wpF Try.prog ora wm 79 [v1, v2] H (fun res H => res = .bool r ∧ Kn wm H [] Fr) := by
 unfold M.anamnesisref06_like at h0
 refine f_enter (n := 26) Try.func79 rfl (by simp) hI rfl rfl rfl fun tm hS => ?_
 clear hI
 refine c_reg fun R hR => ?_
 refine o_pure hS (.inl rfl) rfl rfl ?_; clear hS
 intro tm hS
 refine o_nil (hR _ _ ?_)
 clear hR R
 refine c_seqS ?_
 refine c_reg fun R hR => ?_
 refine o_pure hS (.inl rfl) rfl rfl ?_; clear hS
 intro tm hS
 refine o_len (k := 0) (r := (rI .i64)) hS (.inl rfl) rfl rfl rfl (.inl rfl) Fu22 rfl ?_; clear hS
 intro tm hS
 refine o_pure hS (.inl rfl) rfl rfl ?_; clear hS
 intro tm hS
 refine o_len (k := 1) (r := (rI .i64)) hS (.inl rfl) rfl rfl rfl (.inl rfl) Fu22 rfl ?_; clear hS
 intro tm hS
 refine o_pure hS (.inl rfl) rfl rfl ?_; clear hS
 intro tm hS
 refine o_nil (hR _ _ ?_)
 clear hR R
 refine c_cond hS rfl (fun hc => ?_) (fun hc => ?_)
 ·replace h0 := iteT hc h0
  refine c_reg fun R hR => ?_
  refine o_pure hS (.inl rfl) rfl rfl ?_; clear hS
  intro tm hS
  refine o_nil (hR _ _ ?_)
  clear hR R
  refine wpC.ret ?_
  obtain rfl := Option.some.inj h0
  refine Exists.intro _ (And.intro (rs_tmp hS rfl rs_nil) ?_)
  have hI := hS.inv
  exact ⟨rfl, (hI.sub sn)⟩
 ·replace h0 := iteF hc h0
  refine wpC.skip ?_
  refine c_seqS ?_
  refine c_reg fun R hR => ?_
  refine o_pure hS (.inl rfl) rfl rfl ?_; clear hS
  intro tm hS
  refine o_nil (hR _ _ ?_)
  clear hR R
  obtain ⟨k1, hw1, h0⟩ := bindS h0
  refine wpC.block ?_
  refine c_loop (I := fun (s : Int) tm H => match (generalizing := false) s with | i1 => S wm 26 tm H [(0, v1), (1, v2), (5, .int .i64 i1)] [.fz (rI .i64) v1 a1, .fz (rI .i64) v2 b1] Fr) hw1 (by change S wm 26 _ _ _ _ Fr; exact hS.keep (ka_cons rfl (ka_cons rfl (ka_cons rfl ka_nil))) (fun hI => (hI.sub (sc (sc sn))))) ?_
  clear hS
  intro i1 tm H c1 hS h1 hq1
  change S wm 26 tm H [(0, v1), (1, v2), (5, .int .i64 i1)] [.fz (rI .i64) v1 a1, .fz (rI .i64) v2 b1] Fr at hS
  refine c_seqS ?_
  refine c_reg fun R hR => ?_
  refine o_pure hS (.inl rfl) rfl rfl ?_; clear hS
  intro tm hS
  refine o_pure hS (.inl rfl) rfl rfl ?_; clear hS
  intro tm hS
  refine o_len (k := 0) (r := (rI .i64)) hS (.inl rfl) rfl rfl rfl (.inl rfl) Fu22 rfl ?_; clear hS
  intro tm hS
  refine o_pure hS (.inl rfl) rfl rfl ?_; clear hS
  intro tm hS
  refine o_nil (hR _ _ ?_)
  clear hR R
  refine c_cond hS rfl (fun hc => ?_) (fun hc => ?_)
  ·replace h1 := iteT hc h1
   refine wpC.skip ?_
   refine c_seqS ?_
   refine wpC.block ?_
   refine c_reg fun R hR => ?_
   refine o_pure hS (.inl rfl) rfl rfl ?_; clear hS
   intro tm hS
   refine o_pure hS (.inl rfl) rfl rfl ?_; clear hS
   intro tm hS
   obtain ⟨y1, hx1, h1⟩ := bindS h1
   refine o_ixA (k := 0) (r := (rI .i64)) hS (.inl rfl) rfl rfl rfl rfl (.inl rfl) Fu22 Fs3 hx1 ?_; clear hS
   intro tm hS
   refine o_ldF (r := (rI .i64)) (k := 0) hS (.inl rfl) rfl rfl rfl (.inl rfl) hx1 Fu3 rfl (flat_I _) rfl ?_; clear hS
   intro tm hS
   refine o_pure hS (.inl rfl) rfl rfl ?_; clear hS
   intro tm hS
   refine o_pure hS (.inl rfl) rfl rfl ?_; clear hS
   intro tm hS
   obtain ⟨y2, hx2, h1⟩ := bindS h1
   refine o_ixA (k := 1) (r := (rI .i64)) hS (.inl rfl) rfl rfl rfl rfl (.inl rfl) Fu22 Fs3 hx2 ?_; clear hS
   intro tm hS
   refine o_ldF (r := (rI .i64)) (k := 1) hS (.inl rfl) rfl rfl rfl (.inl rfl) hx2 Fu3 rfl (flat_I _) rfl ?_; clear hS
   intro tm hS
   refine o_pure hS (.inl rfl) rfl rfl ?_; clear hS
   intro tm hS
   refine o_nil (hR _ _ ?_)
   clear hR R
   refine c_cond hS rfl (fun hc => ?_) (fun hc => ?_)
   ·replace h1 := iteT hc h1
    refine c_reg fun R hR => ?_
    refine o_pure hS (.inl rfl) rfl rfl ?_; clear hS
    intro tm hS
    refine o_nil (hR _ _ ?_)
    clear hR R
    refine wpC.ret ?_
    obtain rfl := Option.some.inj h1
    obtain rfl := hq1 _ rfl
    refine And.intro rfl ?_
    obtain rfl := leave h0
    refine Exists.intro _ (And.intro (rs_tmp hS rfl rs_nil) ?_)
    have hI := hS.inv
    exact ⟨rfl, (hI.sub sn)⟩
   ·replace h1 := iteF hc h1
    refine wpC.skip ?_
    refine c_reg1 fun R hR => ?_
    refine o_pure hS (.inl rfl) rfl rfl ?_; clear hS
    intro tm hS
    refine o_pure hS (.inl rfl) rfl rfl ?_; clear hS
    intro tm hS
    refine o_pure hS (.inl rfl) rfl rfl ?_; clear hS
    intro tm hS
    refine o_nil (hR _ _ ?_)
    clear hR R
    obtain rfl := Option.some.inj h1
    refine ⟨_, rfl, ?_⟩
    change S wm 26 _ _ _ _ Fr; exact hS.keep (ka_cons rfl (ka_cons rfl (ka_cons rfl ka_nil))) (fun hI => (hI.sub (sc (sc sn))))
  ·replace h1 := iteF hc h1
   refine wpC.exit ?_
   refine seqX ?_
   obtain rfl := Option.some.inj h1
   obtain rfl := hq1 _ rfl
   refine And.intro rfl (blk_eq ?_)
   replace h0 := joinN h0
   refine c_reg fun R hR => ?_
   refine o_pure hS (.inl rfl) rfl rfl ?_; clear hS
   intro tm hS
   refine o_nil (hR _ _ ?_)
   clear hR R
   refine wpC.ret ?_
   obtain rfl := Option.some.inj h0
   refine Exists.intro _ (And.intro (rs_tmp hS rfl rs_nil) ?_)
   have hI := hS.inv
   exact ⟨rfl, (hI.sub sn)⟩
theorem wk123 {wm : Nat} {H : AHeap} {Fr : List Ent}  (a1 : Int) (b1 : Int)   (hI : Kn wm H [] Fr) {r : Int × Bool} (h0 : M.anamnesisref01_times a1 b1 = some r) :
  wpF Try.prog ora wm 123 [.int .i64 a1, .int .i64 b1] H (fun res H => res = .tuple #[.int .i64 r.1, .bool r.2] ∧ Kn wm H [] Fr) := by
 unfold M.anamnesisref01_times at h0
 refine f_enter (n := 36) Try.func123 rfl (by simp) hI rfl rfl rfl fun tm hS => ?_
 clear hI
 refine c_reg fun R hR => ?_
 refine o_pure hS (.inl rfl) rfl rfl ?_; clear hS
 intro tm hS
 refine o_pure hS (.inl rfl) rfl rfl ?_; clear hS
 intro tm hS
 refine o_nil (hR _ _ ?_)
 clear hR R
 refine c_seqS ?_
 refine c_reg fun R hR => ?_
 refine o_pure hS (.inl rfl) rfl rfl ?_; clear hS
 intro tm hS
 refine o_pure hS (.inl rfl) rfl rfl ?_; clear hS
 intro tm hS
 refine o_pure hS (.inl rfl) rfl rfl ?_; clear hS
 intro tm hS
 obtain ⟨c1, hc1⟩ : ∃ x : Bool, x = ((a1 == 0) || (b1 == 0)) := ⟨_, rfl⟩
 refine o_cutN 3 (J := fun tm H => S wm 36 tm H [(12, .bool c1), (0, .int .i64 a1), (1, .int .i64 b1)] [] Fr) ?_ ?_
 ·rcases Bool.eq_false_or_eq_true (a1 == 0) with hg1 | hg1
  ·refine o_skip hS rfl rfl rfl hg1 ?_; clear hS
   intro tm hS
   refine o_skip hS rfl rfl rfl hg1 ?_; clear hS
   intro tm hS
   refine o_pickT hS (.inl rfl) rfl rfl hg1 rfl ?_; clear hS
   intro tm hS
   have hc1 : c1 = true := hc1.trans (by rw [hg1]; first | rfl | simp)
   subst hc1
   exact o_nil (hS.keep (ka_cons rfl (ka_cons rfl (ka_cons rfl ka_nil))) (fun hI => (hI.sub sn)))
  ·refine o_pure hS (.inr ⟨_, _, _, _, rfl, rfl, rfl, hg1⟩) rfl rfl ?_; clear hS
   intro tm hS
   refine o_pure hS (.inr ⟨_, _, _, _, rfl, rfl, rfl, hg1⟩) rfl rfl ?_; clear hS
   intro tm hS
   refine o_pickF hS (.inl rfl) rfl rfl hg1 rfl ?_; clear hS
   intro tm hS
   have hc1 : c1 = (b1 == 0) := hc1.trans (by rw [hg1]; first | rfl | simp)
   subst hc1
   exact o_nil (hS.keep (ka_cons rfl (ka_cons rfl (ka_cons rfl ka_nil))) (fun hI => (hI.sub sn)))
 intro tm H hS
 subst hc1
 refine o_nil (hR _ _ ?_)
 clear hR R
 refine c_cond hS rfl (fun hc => ?_) (fun hc => ?_)
 ·replace h0 := iteT hc h0
  refine c_reg fun R hR => ?_
  refine o_pure hS (.inl rfl) rfl rfl ?_; clear hS
  intro tm hS
  refine o_pure hS (.inl rfl) rfl rfl ?_; clear hS
  intro tm hS
  refine o_nil (hR _ _ ?_)
  clear hR R
  refine wpC.ret ?_
  obtain rfl := Option.some.inj h0
  refine Exists.intro _ (And.intro (rs_tmp hS rfl (rs_tmp hS rfl rs_nil)) ?_)
  have hI := hS.inv
  exact ⟨rfl, (hI.sub sn)⟩
 ·replace h0 := iteF hc h0
  refine wpC.skip ?_
  refine c_seqS ?_
  refine c_reg fun R hR => ?_
  refine o_pure hS (.inl rfl) rfl rfl ?_; clear hS
  intro tm hS
  refine o_pure hS (.inl rfl) rfl rfl ?_; clear hS
  intro tm hS
  refine o_pure hS (.inl rfl) rfl rfl ?_; clear hS
  intro tm hS
  obtain ⟨c2, hc2⟩ : ∃ x : Bool, x = ((a1 == (-1)) && (b1 == (-9223372036854775808))) := ⟨_, rfl⟩
  refine o_cutN 3 (J := fun tm H => S wm 36 tm H [(18, .bool c2), (0, .int .i64 a1), (1, .int .i64 b1)] [] Fr) ?_ ?_
  ·rcases Bool.eq_false_or_eq_true (a1 == (-1)) with hg2 | hg2
   ·refine o_pure hS (.inr ⟨_, _, _, _, rfl, rfl, rfl, hg2⟩) rfl rfl ?_; clear hS
    intro tm hS
    refine o_pure hS (.inr ⟨_, _, _, _, rfl, rfl, rfl, hg2⟩) rfl rfl ?_; clear hS
    intro tm hS
    refine o_pickT hS (.inl rfl) rfl rfl hg2 rfl ?_; clear hS
    intro tm hS
    have hc2 : c2 = (b1 == (-9223372036854775808)) := hc2.trans (by rw [hg2]; first | rfl | simp)
    subst hc2
    exact o_nil (hS.keep (ka_cons rfl (ka_cons rfl (ka_cons rfl ka_nil))) (fun hI => (hI.sub sn)))
   ·refine o_skip hS rfl rfl rfl hg2 ?_; clear hS
    intro tm hS
    refine o_skip hS rfl rfl rfl hg2 ?_; clear hS
    intro tm hS
    refine o_pickF hS (.inl rfl) rfl rfl hg2 rfl ?_; clear hS
    intro tm hS
    have hc2 : c2 = false := hc2.trans (by rw [hg2]; first | rfl | simp)
    subst hc2
    exact o_nil (hS.keep (ka_cons rfl (ka_cons rfl (ka_cons rfl ka_nil))) (fun hI => (hI.sub sn)))
  intro tm H hS
  subst hc2
  refine o_pure hS (.inl rfl) rfl rfl ?_; clear hS
  intro tm hS
  obtain ⟨c3, hc3⟩ : ∃ x : Bool, x = (((a1 == (-1)) && (b1 == (-9223372036854775808))) || ((b1 == (-1)) && (a1 == (-9223372036854775808)))) := ⟨_, rfl⟩
  refine o_cutN 7 (J := fun tm H => S wm 36 tm H [(26, .bool c3), (0, .int .i64 a1), (1, .int .i64 b1)] [] Fr) ?_ ?_
  ·rcases Bool.eq_false_or_eq_true ((a1 == (-1)) && (b1 == (-9223372036854775808))) with hg3 | hg3
   ·refine o_skip hS rfl rfl rfl hg3 ?_; clear hS
    intro tm hS
    refine o_skip hS rfl rfl rfl hg3 ?_; clear hS
    intro tm hS
    refine o_skip hS rfl rfl rfl hg3 ?_; clear hS
    intro tm hS
    refine o_skipU hS rfl rfl rfl ?_; clear hS
    intro tm hS
    refine o_skipU hS rfl rfl rfl ?_; clear hS
    intro tm hS
    refine o_skip hS rfl rfl rfl hg3 ?_; clear hS
    intro tm hS
    refine o_pickT hS (.inl rfl) rfl rfl hg3 rfl ?_; clear hS
    intro tm hS
    have hc3 : c3 = true := hc3.trans (by rw [hg3]; first | rfl | simp)
    subst hc3
    exact o_nil (hS.keep (ka_cons rfl (ka_cons rfl (ka_cons rfl ka_nil))) (fun hI => (hI.sub sn)))
   ·refine o_pure hS (.inr ⟨_, _, _, _, rfl, rfl, rfl, hg3⟩) rfl rfl ?_; clear hS
    intro tm hS
    refine o_pure hS (.inr ⟨_, _, _, _, rfl, rfl, rfl, hg3⟩) rfl rfl ?_; clear hS
    intro tm hS
    refine o_pure hS (.inr ⟨_, _, _, _, rfl, rfl, rfl, hg3⟩) rfl rfl ?_; clear hS
    intro tm hS
    obtain ⟨c4, hc4⟩ : ∃ x : Bool, x = ((b1 == (-1)) && (a1 == (-9223372036854775808))) := ⟨_, rfl⟩
    refine o_cutN 3 (J := fun tm H => S wm 36 tm H [(25, .bool c4), (0, .int .i64 a1), (1, .int .i64 b1), (19, .bool ((a1 == (-1)) && (b1 == (-9223372036854775808))))] [] Fr) ?_ ?_
    ·rcases Bool.eq_false_or_eq_true (b1 == (-1)) with hg4 | hg4
     ·refine o_pure hS (.inr ⟨_, _, _, _, rfl, rfl, rfl, hg4⟩) rfl rfl ?_; clear hS
      intro tm hS
      refine o_pure hS (.inr ⟨_, _, _, _, rfl, rfl, rfl, hg4⟩) rfl rfl ?_; clear hS
      intro tm hS
      refine o_pickT hS (.inr ⟨_, _, _, _, rfl, rfl, rfl, hg3⟩) rfl rfl hg4 rfl ?_; clear hS
      intro tm hS
      have hc4 : c4 = (a1 == (-9223372036854775808)) := hc4.trans (by rw [hg4]; first | rfl | simp)
      subst hc4
      exact o_nil (hS.keep (ka_cons rfl (ka_cons rfl (ka_cons rfl (ka_cons rfl ka_nil)))) (fun hI => (hI.sub sn)))
     ·refine o_skip hS rfl rfl rfl hg4 ?_; clear hS
      intro tm hS
      refine o_skip hS rfl rfl rfl hg4 ?_; clear hS
      intro tm hS
      refine o_pickF hS (.inr ⟨_, _, _, _, rfl, rfl, rfl, hg3⟩) rfl rfl hg4 rfl ?_; clear hS
      intro tm hS
      have hc4 : c4 = false := hc4.trans (by rw [hg4]; first | rfl | simp)
      subst hc4
      exact o_nil (hS.keep (ka_cons rfl (ka_cons rfl (ka_cons rfl (ka_cons rfl ka_nil)))) (fun hI => (hI.sub sn)))
    intro tm H hS
    subst hc4
    refine o_pickF hS (.inl rfl) rfl rfl hg3 rfl ?_; clear hS
    intro tm hS
    have hc3 : c3 = ((b1 == (-1)) && (a1 == (-9223372036854775808))) := hc3.trans (by rw [hg3]; first | rfl | simp)
    subst hc3
    exact o_nil (hS.keep (ka_cons rfl (ka_cons rfl (ka_cons rfl ka_nil))) (fun hI => (hI.sub sn)))
  intro tm H hS
  subst hc3
  refine o_nil (hR _ _ ?_)
  clear hR R
  refine c_cond hS rfl (fun hc => ?_) (fun hc => ?_)
  ·replace h0 := iteT hc h0
   refine c_reg fun R hR => ?_
   refine o_pure hS (.inl rfl) rfl rfl ?_; clear hS
   intro tm hS
   refine o_pure hS (.inl rfl) rfl rfl ?_; clear hS
   intro tm hS
   refine o_nil (hR _ _ ?_)
   clear hR R
   refine wpC.ret ?_
   obtain rfl := Option.some.inj h0
   refine Exists.intro _ (And.intro (rs_tmp hS rfl (rs_tmp hS rfl rs_nil)) ?_)
   have hI := hS.inv
   exact ⟨rfl, (hI.sub sn)⟩
  ·replace h0 := iteF hc h0
   refine wpC.skip ?_
   refine c_reg fun R hR => ?_
   refine o_pure hS (.inl rfl) rfl rfl ?_; clear hS
   intro tm hS
   refine o_pure hS (.inl rfl) rfl rfl ?_; clear hS
   intro tm hS
   refine o_pure hS (.inl rfl) rfl rfl ?_; clear hS
   intro tm hS
   refine o_pure hS (.inl rfl) rfl rfl ?_; clear hS
   intro tm hS
   refine o_nil (hR _ _ ?_)
   clear hR R
   refine c_seqS ?_
   refine c_reg fun R hR => ?_
   refine o_pure hS (.inl rfl) rfl rfl ?_; clear hS
   intro tm hS
   refine o_pure hS (.inl rfl) rfl rfl ?_; clear hS
   intro tm hS
   obtain ⟨q1, hx1, h0⟩ := bindS h0
   refine o_quo hS (.inl rfl) rfl rfl rfl hx1 ?_; clear hS
   intro tm hS
   refine o_pure hS (.inl rfl) rfl rfl ?_; clear hS
   intro tm hS
   refine o_pure hS (.inl rfl) rfl rfl ?_; clear hS
   intro tm hS
   refine o_nil (hR _ _ ?_)
   clear hR R
   refine c_cond hS rfl (fun hc => ?_) (fun hc => ?_)
   ·replace h0 := iteT hc h0
    refine c_reg fun R hR => ?_
    refine o_pure hS (.inl rfl) rfl rfl ?_; clear hS
    intro tm hS
    refine o_pure hS (.inl rfl) rfl rfl ?_; clear hS
    intro tm hS
    refine o_nil (hR _ _ ?_)
    clear hR R
    refine wpC.ret ?_
    obtain rfl := Option.some.inj h0
    refine Exists.intro _ (And.intro (rs_tmp hS rfl (rs_tmp hS rfl rs_nil)) ?_)
    have hI := hS.inv
    exact ⟨rfl, (hI.sub sn)⟩
   ·replace h0 := iteF hc h0
    refine wpC.skip ?_
    refine c_reg fun R hR => ?_
    refine o_pure hS (.inl rfl) rfl rfl ?_; clear hS
    intro tm hS
    refine o_pure hS (.inl rfl) rfl rfl ?_; clear hS
    intro tm hS
    refine o_pure hS (.inl rfl) rfl rfl ?_; clear hS
    intro tm hS
    refine o_nil (hR _ _ ?_)
    clear hR R
    refine wpC.ret ?_
    obtain rfl := Option.some.inj h0
    refine Exists.intro _ (And.intro (rs_tmp hS rfl (rs_tmp hS rfl rs_nil)) ?_)
    have hI := hS.inv
    exact ⟨rfl, (hI.sub sn)⟩
theorem wk124 {wm : Nat} {H : AHeap} {Fr : List Ent}  (a1 : Int) (b1 : Int)   (hI : Kn wm H [] Fr) {r : Int × Bool} (h0 : M.anamnesisref01_power a1 b1 = some r) :
  wpF Try.prog ora wm 124 [.int .i64 a1, .int .i64 b1] H (fun res H => res = .tuple #[.int .i64 r.1, .bool r.2] ∧ Kn wm H [] Fr) := by
 unfold M.anamnesisref01_power at h0
 refine f_enter (n := 35) Try.func124 rfl (by simp) hI rfl rfl rfl fun tm hS => ?_
 clear hI
 refine c_reg fun R hR => ?_
 refine o_pure hS (.inl rfl) rfl rfl ?_; clear hS
 intro tm hS
 refine o_pure hS (.inl rfl) rfl rfl ?_; clear hS
 intro tm hS
 refine o_nil (hR _ _ ?_)
 clear hR R
 refine c_seqS ?_
 refine c_reg fun R hR => ?_
 refine o_pure hS (.inl rfl) rfl rfl ?_; clear hS
 intro tm hS
 refine o_pure hS (.inl rfl) rfl rfl ?_; clear hS
 intro tm hS
 refine o_pure hS (.inl rfl) rfl rfl ?_; clear hS
 intro tm hS
 obtain ⟨c1, hc1⟩ : ∃ x : Bool, x = ((a1 == 0) || (a1 == 1)) := ⟨_, rfl⟩
 refine o_cutN 3 (J := fun tm H => S wm 35 tm H [(14, .bool c1), (0, .int .i64 a1), (1, .int .i64 b1)] [] Fr) ?_ ?_
 ·rcases Bool.eq_false_or_eq_true (a1 == 0) with hg1 | hg1
  ·refine o_skip hS rfl rfl rfl hg1 ?_; clear hS
   intro tm hS
   refine o_skip hS rfl rfl rfl hg1 ?_; clear hS
   intro tm hS
   refine o_pickT hS (.inl rfl) rfl rfl hg1 rfl ?_; clear hS
   intro tm hS
   have hc1 : c1 = true := hc1.trans (by rw [hg1]; first | rfl | simp)
   subst hc1
   exact o_nil (hS.keep (ka_cons rfl (ka_cons rfl (ka_cons rfl ka_nil))) (fun hI => (hI.sub sn)))
  ·refine o_pure hS (.inr ⟨_, _, _, _, rfl, rfl, rfl, hg1⟩) rfl rfl ?_; clear hS
   intro tm hS
   refine o_pure hS (.inr ⟨_, _, _, _, rfl, rfl, rfl, hg1⟩) rfl rfl ?_; clear hS
   intro tm hS
   refine o_pickF hS (.inl rfl) rfl rfl hg1 rfl ?_; clear hS
   intro tm hS
   have hc1 : c1 = (a1 == 1) := hc1.trans (by rw [hg1]; first | rfl | simp)
   subst hc1
   exact o_nil (hS.keep (ka_cons rfl (ka_cons rfl (ka_cons rfl ka_nil))) (fun hI => (hI.sub sn)))
 intro tm H hS
 subst hc1
 refine o_nil (hR _ _ ?_)
 clear hR R
 refine c_cond hS rfl (fun hc => ?_) (fun hc => ?_)
 ·replace h0 := iteT hc h0
  refine c_reg fun R hR => ?_
  refine o_pure hS (.inl rfl) rfl rfl ?_; clear hS
  intro tm hS
  refine o_pure hS (.inl rfl) rfl rfl ?_; clear hS
  intro tm hS
  refine o_pure hS (.inl rfl) rfl rfl ?_; clear hS
  intro tm hS
  refine o_nil (hR _ _ ?_)
  clear hR R
  refine wpC.ret ?_
  obtain rfl := Option.some.inj h0
  refine Exists.intro _ (And.intro (rs_tmp hS rfl (rs_tmp hS rfl rs_nil)) ?_)
  have hI := hS.inv
  exact ⟨rfl, (hI.sub sn)⟩
 ·replace h0 := iteF hc h0
  refine wpC.skip ?_
  refine c_seqS ?_
  refine c_reg fun R hR => ?_
  refine o_pure hS (.inl rfl) rfl rfl ?_; clear hS
  intro tm hS
  refine o_pure hS (.inl rfl) rfl rfl ?_; clear hS
  intro tm hS
  refine o_nil (hR _ _ ?_)
  clear hR R
  refine c_cond hS rfl (fun hc => ?_) (fun hc => ?_)
  ·replace h0 := iteT hc h0
   refine c_seqS ?_
   refine c_reg fun R hR => ?_
   refine o_pure hS (.inl rfl) rfl rfl ?_; clear hS
   intro tm hS
   refine o_pure hS (.inl rfl) rfl rfl ?_; clear hS
   intro tm hS
   refine o_pure hS (.inl rfl) rfl rfl ?_; clear hS
   intro tm hS
   refine o_nil (hR _ _ ?_)
   clear hR R
   refine c_cond hS rfl (fun hc => ?_) (fun hc => ?_)
   ·replace h0 := iteT hc h0
    refine c_reg fun R hR => ?_
    refine o_pure hS (.inl rfl) rfl rfl ?_; clear hS
    intro tm hS
    refine o_pure hS (.inl rfl) rfl rfl ?_; clear hS
    intro tm hS
    refine o_nil (hR _ _ ?_)
    clear hR R
    refine wpC.ret ?_
    obtain rfl := Option.some.inj h0
    refine Exists.intro _ (And.intro (rs_tmp hS rfl (rs_tmp hS rfl rs_nil)) ?_)
    have hI := hS.inv
    exact ⟨rfl, (hI.sub sn)⟩
   ·replace h0 := iteF hc h0
    refine wpC.skip ?_
    refine c_reg fun R hR => ?_
    refine o_pure hS (.inl rfl) rfl rfl ?_; clear hS
    intro tm hS
    refine o_pure hS (.inl rfl) rfl rfl ?_; clear hS
    intro tm hS
    refine o_nil (hR _ _ ?_)
    clear hR R
    refine wpC.ret ?_
    obtain rfl := Option.some.inj h0
    refine Exists.intro _ (And.intro (rs_tmp hS rfl (rs_tmp hS rfl rs_nil)) ?_)
    have hI := hS.inv
    exact ⟨rfl, (hI.sub sn)⟩
  ·replace h0 := iteF hc h0
   refine wpC.skip ?_
   refine c_reg fun R hR => ?_
   refine o_pure hS (.inl rfl) rfl rfl ?_; clear hS
   intro tm hS
   refine o_nil (hR _ _ ?_)
   clear hR R
   refine c_reg fun R hR => ?_
   refine o_pure hS (.inl rfl) rfl rfl ?_; clear hS
   intro tm hS
   refine o_nil (hR _ _ ?_)
   clear hR R
   refine c_seqS ?_
   refine c_reg fun R hR => ?_
   refine o_pure hS (.inl rfl) rfl rfl ?_; clear hS
   intro tm hS
   refine o_nil (hR _ _ ?_)
   clear hR R
   obtain ⟨k1, hw1, h0⟩ := bindS h0
   refine wpC.block ?_
   refine c_loop (I := fun (s : Int × Int) tm H => match (generalizing := false) s with | (c2, i1) => S wm 35 tm H [(0, .int .i64 a1), (1, .int .i64 b1), (6, .int .i64 c2), (8, .int .i64 i1)] [] Fr) hw1 (by change S wm 35 _ _ _ _ Fr; exact hS.keep (ka_cons rfl (ka_cons rfl (ka_cons rfl (ka_cons rfl ka_nil)))) (fun hI => (hI.sub sn))) ?_
   clear hS
   intro s1 tm H c3 hS h1 hq1
   obtain ⟨c2, i1⟩ := s1
   change S wm 35 tm H [(0, .int .i64 a1), (1, .int .i64 b1), (6, .int .i64 c2), (8, .int .i64 i1)] [] Fr at hS
   refine c_seqS ?_
   refine c_reg fun R hR => ?_
   refine o_pure hS (.inl rfl) rfl rfl ?_; clear hS
   intro tm hS
   refine o_pure hS (.inl rfl) rfl rfl ?_; clear hS
   intro tm hS
   refine o_pure hS (.inl rfl) rfl rfl ?_; clear hS
   intro tm hS
   refine o_nil (hR _ _ ?_)
   clear hR R
   refine c_cond hS rfl (fun hc => ?_) (fun hc => ?_)
   ·replace h1 := iteT hc h1
    refine wpC.skip ?_
    refine c_seqS ?_
    refine wpC.block ?_
    refine c_reg fun R hR => ?_
    refine o_pure hS (.inl rfl) rfl rfl ?_; clear hS
    intro tm hS
    refine o_pure hS (.inl rfl) rfl rfl ?_; clear hS
    intro tm hS
    obtain ⟨⟨r1, r2⟩, hx1, h1⟩ := bindS h1
    refine o_call hS (.inl rfl) rfl (fun wm' hw1 hw2 => wk123  c2 a1   (hS.sel hw2) hx1) (fun wm' res H hw' hp => ?_)
    obtain ⟨hres, hI⟩ := hp
    replace hres := hres.symm; subst hres
    replace hS : S wm 35 _ H ((29, .tuple #[.int .i64 r1, .bool r2]) :: _) ([] ++ _) Fr := hS.after rfl hw' hI
    clear hI hw'
    refine o_pure hS (.inl rfl) rfl rfl ?_; clear hS
    intro tm hS
    refine o_pure hS (.inl rfl) rfl rfl ?_; clear hS
    intro tm hS
    refine o_pure hS (.inl rfl) rfl rfl ?_; clear hS
    intro tm hS
    refine o_pure hS (.inl rfl) rfl rfl ?_; clear hS
    intro tm hS
    refine o_pure hS (.inl rfl) rfl rfl ?_; clear hS
    intro tm hS
    refine o_nil (hR _ _ ?_)
    clear hR R
    refine c_reg fun R hR => ?_
    refine o_pure hS (.inl rfl) rfl rfl ?_; clear hS
    intro tm hS
    refine o_pure hS (.inl rfl) rfl rfl ?_; clear hS
    intro tm hS
    refine o_nil (hR _ _ ?_)
    clear hR R
    refine c_cond hS rfl (fun hc => ?_) (fun hc => ?_)
    ·replace h1 := iteT hc h1
     refine c_reg fun R hR => ?_
     refine o_pure hS (.inl rfl) rfl rfl ?_; clear hS
     intro tm hS
     refine o_pure hS (.inl rfl) rfl rfl ?_; clear hS
     intro tm hS
     refine o_nil (hR _ _ ?_)
     clear hR R
     refine wpC.ret ?_
     obtain rfl := Option.some.inj h1
     obtain rfl := hq1 _ rfl
     refine And.intro rfl ?_
     obtain rfl := leave h0
     refine Exists.intro _ (And.intro (rs_tmp hS rfl (rs_tmp hS rfl rs_nil)) ?_)
     have hI := hS.inv
     exact ⟨rfl, (hI.sub sn)⟩
    ·replace h1 := iteF hc h1
     refine wpC.skip ?_
     refine c_reg1 fun R hR => ?_
     refine o_pure hS (.inl rfl) rfl rfl ?_; clear hS
     intro tm hS
     refine o_pure hS (.inl rfl) rfl rfl ?_; clear hS
     intro tm hS
     refine o_pure hS (.inl rfl) rfl rfl ?_; clear hS
     intro tm hS
     refine o_nil (hR _ _ ?_)
     clear hR R
     obtain rfl := Option.some.inj h1
     refine ⟨_, rfl, ?_⟩
     change S wm 35 _ _ _ _ Fr; exact hS.keep (ka_cons rfl (ka_cons rfl (ka_cons rfl (ka_cons rfl ka_nil)))) (fun hI => (hI.sub sn))
   ·replace h1 := iteF hc h1
    refine wpC.exit ?_
    refine seqX ?_
    obtain rfl := Option.some.inj h1
    obtain rfl := hq1 _ rfl
    refine And.intro rfl (blk_eq ?_)
    replace h0 := joinN h0
    refine c_reg fun R hR => ?_
    refine o_pure hS (.inl rfl) rfl rfl ?_; clear hS
    intro tm hS
    refine o_pure hS (.inl rfl) rfl rfl ?_; clear hS
    intro tm hS
    refine o_pure hS (.inl rfl) rfl rfl ?_; clear hS
    intro tm hS
    refine o_nil (hR _ _ ?_)
    clear hR R
    refine wpC.ret ?_
    obtain rfl := Option.some.inj h0
    refine Exists.intro _ (And.intro (rs_tmp hS rfl (rs_tmp hS rfl rs_nil)) ?_)
    have hI := hS.inv
    exact ⟨rfl, (hI.sub sn)⟩
theorem wk144 {wm : Nat} {H : AHeap} {Fr : List Ent}  (a1 : Int) (b1 : Int)   (hI : Kn wm H [] Fr) {r : Int} (h0 : M.anamnesisref01_gcd a1 b1 = some r) :
  wpF Try.prog ora wm 144 [.int .i64 a1, .int .i64 b1] H (fun res H => res = .int .i64 r ∧ Kn wm H [] Fr) := by
 unfold M.anamnesisref01_gcd at h0
 refine f_enter (n := 14) Try.func144 rfl (by simp) hI rfl rfl rfl fun tm hS => ?_
 clear hI
 refine c_reg fun R hR => ?_
 refine o_pure hS (.inl rfl) rfl rfl ?_; clear hS
 intro tm hS
 refine o_nil (hR _ _ ?_)
 clear hR R
 refine c_seqS ?_
 obtain ⟨k1, hw1, h0⟩ := bindS h0
 refine wpC.block ?_
 refine c_loop (I := fun (s : Int × Int) tm H => match (generalizing := false) s with | (a2, b2) => S wm 14 tm H [(0, .int .i64 a2), (1, .int .i64 b2)] [] Fr) hw1 (by change S wm 14 _ _ _ _ Fr; exact hS.keep (ka_cons rfl (ka_cons rfl ka_nil)) (fun hI => (hI.sub sn))) ?_
 clear hS
 intro s1 tm H c1 hS h1 hq1
 obtain ⟨a2, b2⟩ := s1
 change S wm 14 tm H [(0, .int .i64 a2), (1, .int .i64 b2)] [] Fr at hS
 refine c_seqS ?_
 refine c_reg fun R hR => ?_
 refine o_pure hS (.inl rfl) rfl rfl ?_; clear hS
 intro tm hS
 refine o_pure hS (.inl rfl) rfl rfl ?_; clear hS
 intro tm hS
 refine o_nil (hR _ _ ?_)
 clear hR R
 refine c_cond hS rfl (fun hc => ?_) (fun hc => ?_)
 ·replace h1 := iteT hc h1
  refine wpC.skip ?_
  refine wpC.block ?_
  refine c_reg fun R hR => ?_
  refine o_pure hS (.inl rfl) rfl rfl ?_; clear hS
  intro tm hS
  refine o_pure hS (.inl rfl) rfl rfl ?_; clear hS
  intro tm hS
  obtain ⟨q1, hx1, h1⟩ := bindS h1
  refine o_rem hS (.inl rfl) rfl rfl rfl hx1 ?_; clear hS
  intro tm hS
  refine o_pure hS (.inl rfl) rfl rfl ?_; clear hS
  intro tm hS
  refine o_nil (hR _ _ ?_)
  clear hR R
  refine c_reg fun R hR => ?_
  refine o_pure hS (.inl rfl) rfl rfl ?_; clear hS
  intro tm hS
  refine o_pure hS (.inl rfl) rfl rfl ?_; clear hS
  intro tm hS
  refine o_nil (hR _ _ ?_)
  clear hR R
  refine c_reg1 fun R hR => ?_
  refine o_pure hS (.inl rfl) rfl rfl ?_; clear hS
  intro tm hS
  refine o_pure hS (.inl rfl) rfl rfl ?_; clear hS
  intro tm hS
  refine o_nil (hR _ _ ?_)
  clear hR R
  obtain rfl := Option.some.inj h1
  refine ⟨_, rfl, ?_⟩
  change S wm 14 _ _ _ _ Fr; exact hS.keep (ka_cons rfl (ka_cons rfl ka_nil)) (fun hI => (hI.sub sn))
 ·replace h1 := iteF hc h1
  refine wpC.exit ?_
  refine seqX ?_
  obtain rfl := Option.some.inj h1
  obtain rfl := hq1 _ rfl
  refine And.intro rfl (blk_eq ?_)
  replace h0 := joinN h0
  refine c_reg fun R hR => ?_
  refine o_pure hS (.inl rfl) rfl rfl ?_; clear hS
  intro tm hS
  refine o_pure hS (.inl rfl) rfl rfl ?_; clear hS
  intro tm hS
  refine o_nil (hR _ _ ?_)
  clear hR R
  refine wpC.ret ?_
  obtain rfl := Option.some.inj h0
  refine Exists.intro _ (And.intro (rs_tmp hS rfl rs_nil) ?_)
  have hI := hS.inv
  exact ⟨rfl, (hI.sub sn)⟩
theorem wk125 {wm : Nat} {H : AHeap} {Fr : List Ent}  (a1 : Int) (b1 : Int)   (hI : Kn wm H [] Fr) {r : Int × Bool} (h0 : M.anamnesisref01_choose a1 b1 = some r) :
  wpF Try.prog ora wm 125 [.int .i64 a1, .int .i64 b1] H (fun res H => res = .tuple #[.int .i64 r.1, .bool r.2] ∧ Kn wm H [] Fr) := by
 unfold M.anamnesisref01_choose at h0
 refine f_enter (n := 51) Try.func125 rfl (by simp) hI rfl rfl rfl fun tm hS => ?_
 clear hI
 refine c_reg fun R hR => ?_
 refine o_pure hS (.inl rfl) rfl rfl ?_; clear hS
 intro tm hS
 refine o_pure hS (.inl rfl) rfl rfl ?_; clear hS
 intro tm hS
 refine o_nil (hR _ _ ?_)
 clear hR R
 refine c_seqS ?_
 refine c_reg fun R hR => ?_
 refine o_pure hS (.inl rfl) rfl rfl ?_; clear hS
 intro tm hS
 refine o_pure hS (.inl rfl) rfl rfl ?_; clear hS
 intro tm hS
 refine o_pure hS (.inl rfl) rfl rfl ?_; clear hS
 intro tm hS
 refine o_nil (hR _ _ ?_)
 clear hR R
 refine c_cond hS rfl (fun hc => ?_) (fun hc => ?_)
 ·replace h0 := iteT hc h0
  refine c_reg fun R hR => ?_
  refine o_pure hS (.inl rfl) rfl rfl ?_; clear hS
  intro tm hS
  refine o_pure hS (.inl rfl) rfl rfl ?_; clear hS
  intro tm hS
  refine o_nil (hR _ _ ?_)
  clear hR R
  refine wpC.ret ?_
  obtain rfl := Option.some.inj h0
  refine Exists.intro _ (And.intro (rs_tmp hS rfl (rs_tmp hS rfl rs_nil)) ?_)
  have hI := hS.inv
  exact ⟨rfl, (hI.sub sn)⟩
 ·replace h0 := iteF hc h0
  refine wpC.skip ?_
  refine c_reg fun R hR => ?_
  refine o_pure hS (.inl rfl) rfl rfl ?_; clear hS
  intro tm hS
  refine o_pure hS (.inl rfl) rfl rfl ?_; clear hS
  intro tm hS
  refine o_nil (hR _ _ ?_)
  clear hR R
  obtain ⟨n1, h1, h0⟩ := bindS h0
  refine c_seqJ (J := fun tm H => (match (generalizing := false) n1 with | n1 => S wm 51 tm H [(1, .int .i64 b1), (6, .int .i64 n1)] [] Fr)) ?_ ?_
  ·refine c_reg fun R hR => ?_
   refine o_pure hS (.inl rfl) rfl rfl ?_; clear hS
   intro tm hS
   refine o_pure hS (.inl rfl) rfl rfl ?_; clear hS
   intro tm hS
   refine o_pure hS (.inl rfl) rfl rfl ?_; clear hS
   intro tm hS
   refine o_pure hS (.inl rfl) rfl rfl ?_; clear hS
   intro tm hS
   refine o_pure hS (.inl rfl) rfl rfl ?_; clear hS
   intro tm hS
   refine o_nil (hR _ _ ?_)
   clear hR R
   refine c_cond hS rfl (fun hc => ?_) (fun hc => ?_)
   ·replace h1 := iteT hc h1
    refine c_reg1 fun R hR => ?_
    refine o_pure hS (.inl rfl) rfl rfl ?_; clear hS
    intro tm hS
    refine o_pure hS (.inl rfl) rfl rfl ?_; clear hS
    intro tm hS
    refine o_pure hS (.inl rfl) rfl rfl ?_; clear hS
    intro tm hS
    refine o_pure hS (.inl rfl) rfl rfl ?_; clear hS
    intro tm hS
    refine o_nil (hR _ _ ?_)
    clear hR R
    obtain rfl := Option.some.inj h1
    change S wm 51 _ _ _ _ Fr; exact hS.keep (ka_cons rfl (ka_cons rfl ka_nil)) (fun hI => (hI.sub sn))
   ·replace h1 := iteF hc h1
    refine wpC.skip ?_
    obtain rfl := Option.some.inj h1
    change S wm 51 _ _ _ _ Fr; exact hS.keep (ka_cons rfl (ka_cons rfl ka_nil)) (fun hI => (hI.sub sn))
  intro tm H hS
  change S wm 51 tm H [(1, .int .i64 b1), (6, .int .i64 n1)] [] Fr at hS
  refine c_reg fun R hR => ?_
  refine o_pure hS (.inl rfl) rfl rfl ?_; clear hS
  intro tm hS
  refine o_nil (hR _ _ ?_)
  clear hR R
  refine c_reg fun R hR => ?_
  refine o_pure hS (.inl rfl) rfl rfl ?_; clear hS
  intro tm hS
  refine o_nil (hR _ _ ?_)
  clear hR R
  refine c_seqS ?_
  refine c_reg fun R hR => ?_
  refine o_pure hS (.inl rfl) rfl rfl ?_; clear hS
  intro tm hS
  refine o_nil (hR _ _ ?_)
  clear hR R
  obtain ⟨k1, hw1, h0⟩ := bindS h0
  refine wpC.block ?_
  refine c_loop (I := fun (s : Int × Int) tm H => match (generalizing := false) s with | (c1, i1) => S wm 51 tm H [(1, .int .i64 b1), (6, .int .i64 n1), (7, .int .i64 c1), (9, .int .i64 i1)] [] Fr) hw1 (by change S wm 51 _ _ _ _ Fr; exact hS.keep (ka_cons rfl (ka_cons rfl (ka_cons rfl (ka_cons rfl ka_nil)))) (fun hI => (hI.sub sn))) ?_
  clear hS
  intro s1 tm H c2 hS h2 hq2
  obtain ⟨c1, i1⟩ := s1
  change S wm 51 tm H [(1, .int .i64 b1), (6, .int .i64 n1), (7, .int .i64 c1), (9, .int .i64 i1)] [] Fr at hS
  refine c_seqS ?_
  refine c_reg fun R hR => ?_
  refine o_pure hS (.inl rfl) rfl rfl ?_; clear hS
  intro tm hS
  refine o_pure hS (.inl rfl) rfl rfl ?_; clear hS
  intro tm hS
  refine o_pure hS (.inl rfl) rfl rfl ?_; clear hS
  intro tm hS
  refine o_nil (hR _ _ ?_)
  clear hR R
  refine c_cond hS rfl (fun hc => ?_) (fun hc => ?_)
  ·replace h2 := iteT hc h2
   refine wpC.skip ?_
   refine c_seqS ?_
   refine wpC.block ?_
   refine c_reg fun R hR => ?_
   refine o_pure hS (.inl rfl) rfl rfl ?_; clear hS
   intro tm hS
   refine o_pure hS (.inl rfl) rfl rfl ?_; clear hS
   intro tm hS
   refine o_pure hS (.inl rfl) rfl rfl ?_; clear hS
   intro tm hS
   obtain ⟨r1, hx1, h2⟩ := bindS h2
   refine o_call hS (.inl rfl) rfl (fun wm' hw1 hw2 => wk144  c1 (IntKind.i64.wrap (i1 + 1))   (hS.sel hw2) hx1) (fun wm' res H hw' hp => ?_)
   obtain ⟨hres, hI⟩ := hp
   replace hres := hres.symm; subst hres
   replace hS : S wm 51 _ H ((31, .int .i64 r1) :: _) ([] ++ _) Fr := hS.after rfl hw' hI
   clear hI hw'
   refine o_pure hS (.inl rfl) rfl rfl ?_; clear hS
   intro tm hS
   refine o_nil (hR _ _ ?_)
   clear hR R
   refine c_reg fun R hR => ?_
   refine o_pure hS (.inl rfl) rfl rfl ?_; clear hS
   intro tm hS
   refine o_pure hS (.inl rfl) rfl rfl ?_; clear hS
   intro tm hS
   obtain ⟨q1, hx2, h2⟩ := bindS h2
   refine o_quo hS (.inl rfl) rfl rfl rfl hx2 ?_; clear hS
   intro tm hS
   refine o_pure hS (.inl rfl) rfl rfl ?_; clear hS
   intro tm hS
   refine o_nil (hR _ _ ?_)
   clear hR R
   refine c_reg fun R hR => ?_
   refine o_pure hS (.inl rfl) rfl rfl ?_; clear hS
   intro tm hS
   refine o_pure hS (.inl rfl) rfl rfl ?_; clear hS
   intro tm hS
   refine o_pure hS (.inl rfl) rfl rfl ?_; clear hS
   intro tm hS
   refine o_pure hS (.inl rfl) rfl rfl ?_; clear hS
   intro tm hS
   refine o_pure hS (.inl rfl) rfl rfl ?_; clear hS
   intro tm hS
   refine o_pure hS (.inl rfl) rfl rfl ?_; clear hS
   intro tm hS
   refine o_pure hS (.inl rfl) rfl rfl ?_; clear hS
   intro tm hS
   obtain ⟨q2, hx3, h2⟩ := bindS h2
   refine o_quo hS (.inl rfl) rfl rfl rfl hx3 ?_; clear hS
   intro tm hS
   obtain ⟨q3, hx4, h2⟩ := bindS h2
   refine o_quo hS (.inl rfl) rfl rfl rfl hx4 ?_; clear hS
   intro tm hS
   obtain ⟨⟨r2, r3⟩, hx5, h2⟩ := bindS h2
   refine o_call hS (.inl rfl) rfl (fun wm' hw1 hw2 => wk123  q1 q3   (hS.sel hw2) hx5) (fun wm' res H hw' hp => ?_)
   obtain ⟨hres, hI⟩ := hp
   replace hres := hres.symm; subst hres
   replace hS : S wm 51 _ H ((45, .tuple #[.int .i64 r2, .bool r3]) :: _) ([] ++ _) Fr := hS.after rfl hw' hI
   clear hI hw'
   refine o_pure hS (.inl rfl) rfl rfl ?_; clear hS
   intro tm hS
   refine o_pure hS (.inl rfl) rfl rfl ?_; clear hS
   intro tm hS
   refine o_pure hS (.inl rfl) rfl rfl ?_; clear hS
   intro tm hS
   refine o_pure hS (.inl rfl) rfl rfl ?_; clear hS
   intro tm hS
   refine o_pure hS (.inl rfl) rfl rfl ?_; clear hS
   intro tm hS
   refine o_nil (hR _ _ ?_)
   clear hR R
   refine c_reg fun R hR => ?_
   refine o_pure hS (.inl rfl) rfl rfl ?_; clear hS
   intro tm hS
   refine o_pure hS (.inl rfl) rfl rfl ?_; clear hS
   intro tm hS
   refine o_nil (hR _ _ ?_)
   clear hR R
   refine c_cond hS rfl (fun hc => ?_) (fun hc => ?_)
   ·replace h2 := iteT hc h2
    refine c_reg fun R hR => ?_
    refine o_pure hS (.inl rfl) rfl rfl ?_; clear hS
    intro tm hS
    refine o_pure hS (.inl rfl) rfl rfl ?_; clear hS
    intro tm hS
    refine o_nil (hR _ _ ?_)
    clear hR R
    refine wpC.ret ?_
    obtain rfl := Option.some.inj h2
    obtain rfl := hq2 _ rfl
    refine And.intro rfl ?_
    obtain rfl := leave h0
    refine Exists.intro _ (And.intro (rs_tmp hS rfl (rs_tmp hS rfl rs_nil)) ?_)
    have hI := hS.inv
    exact ⟨rfl, (hI.sub sn)⟩
   ·replace h2 := iteF hc h2
    refine wpC.skip ?_
    refine c_reg1 fun R hR => ?_
    refine o_pure hS (.inl rfl) rfl rfl ?_; clear hS
    intro tm hS
    refine o_pure hS (.inl rfl) rfl rfl ?_; clear hS
    intro tm hS
    refine o_pure hS (.inl rfl) rfl rfl ?_; clear hS
    intro tm hS
    refine o_nil (hR _ _ ?_)
    clear hR R
    obtain rfl := Option.some.inj h2
    refine ⟨_, rfl, ?_⟩
    change S wm 51 _ _ _ _ Fr; exact hS.keep (ka_cons rfl (ka_cons rfl (ka_cons rfl (ka_cons rfl ka_nil)))) (fun hI => (hI.sub sn))
  ·replace h2 := iteF hc h2
   refine wpC.exit ?_
   refine seqX ?_
   obtain rfl := Option.some.inj h2
   obtain rfl := hq2 _ rfl
   refine And.intro rfl (blk_eq ?_)
   replace h0 := joinN h0
   refine c_reg fun R hR => ?_
   refine o_pure hS (.inl rfl) rfl rfl ?_; clear hS
   intro tm hS
   refine o_pure hS (.inl rfl) rfl rfl ?_; clear hS
   intro tm hS
   refine o_pure hS (.inl rfl) rfl rfl ?_; clear hS
   intro tm hS
   refine o_nil (hR _ _ ?_)
   clear hR R
   refine wpC.ret ?_
   obtain rfl := Option.some.inj h0
   refine Exists.intro _ (And.intro (rs_tmp hS rfl (rs_tmp hS rfl rs_nil)) ?_)
   have hI := hS.inv
   exact ⟨rfl, (hI.sub sn)⟩
end Go.Proofs.Ytaedfhikoamfeaa.scalarTells
