/- RandRolls: walks of the code: the run of each function comes to what its plain function says. -/
import Derived.Test.YtpkfklfakegbjaaMRandRolls
import Derived.Test.YtpkfklfakegbjaaProg
set_option linter.unusedVariables false
set_option linter.unusedSimpArgs false
set_option maxRecDepth 100000
open Go Go.Am Go.Proofs
namespace Go.Proofs.Ytpkfklfakegbjaa.randRolls
variable {ora : FuncId → Bool}
theorem Fu22 : Try.prog.underlying 22 = some (.slice 2) := by kernel_rfl
theorem Fs2 : sizeOf' Try.prog 2 = some 1 := by kernel_rfl
theorem Fu2 : Try.prog.underlying 2 = some (.int .i64) := by kernel_rfl
theorem Fz25 : zeroOf Try.prog 25 = some ((zeroOf Try.prog 25).getD undef) ∧ constOk ((zeroOf Try.prog 25).getD undef) = true ∧ ((zeroOf Try.prog 25).getD undef).cells.toList = [.bool false, (.slice none 0 0), (.slice none 0 0)] := ⟨by kernel_rfl, by kernel_rfl, by kernel_rfl⟩
theorem Fl23 : LitOk Try.prog 23 1 3 ((zeroOf Try.prog 3).getD undef) := ⟨by kernel_rfl, by kernel_rfl, by kernel_rfl, by kernel_rfl, by kernel_rfl, by decide⟩
theorem Fb25 : BuildOk Try.prog 25 [(0, 1), (1, 1), (2, 1)] [.bool false, (.slice none 0 0), (.slice none 0 0)] (match Try.prog.underlying 25 with | some (.struct f) => f | _ => #[]) ((zeroOf Try.prog 25).getD undef) := ⟨by kernel_rfl, by kernel_rfl, by kernel_rfl, by kernel_rfl, by kernel_rfl⟩
theorem Fs25 : sizeOf' Try.prog 25 = some 3 := by kernel_rfl
theorem Fu25 : Try.prog.underlying 25 = some ((Try.prog.underlying 25).getD .bool) := by kernel_rfl
theorem Fu23 : Try.prog.underlying 23 = some (.slice 3) := by kernel_rfl
theorem Fs3 : sizeOf' Try.prog 3 = some 1 := by kernel_rfl
theorem Fu3 : Try.prog.underlying 3 = some (.int .i64) := by kernel_rfl
theorem Fu4 : Try.prog.underlying 4 = some .bool := by kernel_rfl
theorem Fe23_23 : ElemOk Try.prog 23 23 1 8 3 3 ((Try.prog.info? 3).getD default) (((Try.prog.info? 3).getD default).zero.getD undef) := ⟨by kernel_rfl, by kernel_rfl, by kernel_rfl, by kernel_rfl, by kernel_rfl, by kernel_rfl, by kernel_rfl, by decide, by kernel_rfl, by decide⟩
theorem Fl22 : LitOk Try.prog 22 1 2 ((zeroOf Try.prog 2).getD undef) := ⟨by kernel_rfl, by kernel_rfl, by kernel_rfl, by kernel_rfl, by kernel_rfl, by decide⟩
theorem Fe22_22 : ElemOk Try.prog 22 22 1 8 2 2 ((Try.prog.info? 2).getD default) (((Try.prog.info? 2).getD default).zero.getD undef) := ⟨by kernel_rfl, by kernel_rfl, by kernel_rfl, by kernel_rfl, by kernel_rfl, by kernel_rfl, by kernel_rfl, by decide, by kernel_rfl, by decide⟩
theorem Fu30 : Try.prog.underlying 30 = some (.slice 44) := by kernel_rfl
theorem Fs44 : sizeOf' Try.prog 44 = some 1 := by kernel_rfl
theorem Fu44 : Try.prog.underlying 44 = some (.int .u64) := by kernel_rfl
theorem Fl30 : LitOk Try.prog 30 1 44 ((zeroOf Try.prog 44).getD undef) := ⟨by kernel_rfl, by kernel_rfl, by kernel_rfl, by kernel_rfl, by kernel_rfl, by decide⟩
theorem wk15 {wm : Nat} {H : AHeap} {Fr : List Ent}  (l1 : (List Int))  (v1 : Value) (hI : Kn wm H [.fz (rI .i64) v1 l1] Fr) {r : Val} (h0 : M.anamnesislaw13_vec l1 = some r) :
  wpF Try.prog ora wm 15 [v1] H (fun res H => ∃ v3 v4, res = .agg #[.bool r.Char, v3, v4] ∧ Kn wm H [.own (rI .i64) v3 r.Shape, .fz (rI .i64) v4 r.Data] Fr) := by
 unfold M.anamnesislaw13_vec at h0
 refine f_enter (n := 8) Try.func15 rfl (by simp) hI rfl rfl rfl fun tm hS => ?_
 clear hI
 refine c_reg fun R hR => ?_
 refine o_alloc hS (.inl rfl) rfl Fz25 (by decide) ?_; clear hS; try clear tm H
 intro b1 tm H hS
 refine o_nil (hR _ _ ?_)
 clear hR R
 refine c_reg fun R hR => ?_
 refine o_pure hS (.inl rfl) rfl rfl ?_; clear hS; try clear tm
 intro tm hS
 refine o_len (k := 1) (r := (rI .i64)) hS (.inl rfl) rfl rfl rfl (.inl rfl) Fu22 rfl ?_; clear hS; try clear tm
 intro tm hS
 refine o_lit (r := (rI .i64)) (l := [(l1.length : Int)]) hS (.inl rfl) rfl Fl23 rfl rfl rfl (.cons rfl .nil) rfl rfl (ri_1 (rd_flat fun _ => rfl) ri_nil) rfl ?_; clear hS; try clear tm H
 intro v2 tm H hS
 refine o_pure hS (.inl rfl) rfl rfl ?_; clear hS; try clear tm
 intro tm hS
 refine o_build hS (.inl rfl) rfl Fb25 rfl (.cons (cells_one (hS.one (k := 0) rfl (.inr (.inr rfl)))) (.cons (cells_one (hS.one (k := 2) rfl (.inl rfl))) .nil)) rfl ?_; clear hS; try clear tm
 intro tm hS
 refine o_st (k := 1) hS (.inl rfl) rfl rfl rfl Fs25 rfl rfl (all_cons rfl (all_cons (hS.one (k := 0) rfl (.inr (.inr rfl))) (all_cons (hS.one (k := 2) rfl (.inl rfl)) all_nil))) rfl ?_; clear hS; try clear H
 intro H hS
 refine o_nil (hR _ _ ?_)
 clear hR R
 refine wpC.ret ?_
 obtain rfl := Option.some.inj h0
 replace hS := hS.litOwn (k := 0) rfl
 refine Exists.intro _ (And.intro (rs_cellA (k := 1) hS rfl rfl (.inl rfl) Fu25 rfl Fs25 rfl rs_nil) ?_)
 have hI := hS.inv
 exact ⟨v2, v1, rfl, (hI.sub (sc (sd (sc sn))))⟩
theorem wk53 {wm : Nat} {H : AHeap} {Fr : List Ent}  (s1 : (List Int)) (f1 : (Int → Option (Bool))) (gfn1 : FuncId) (gcap1 : Array Value) (E : List Ent) (hE : ∀ e ∈ E, e.blk = none) (hf : ∀ {wm : Nat} {H : AHeap} {Fr : List Ent} (y0 : Int) , Kn wm H (E) Fr → ∀ {r : Bool}, f1 y0 = some r → wpF Try.prog ora wm gfn1 ([.int .i64 y0] ++ gcap1.toList) H (fun res H => res = .bool r ∧ Kn wm H [] Fr)) (v1 : Value) (hI : Kn wm H (.fz (rI .i64) v1 s1 :: E) Fr) {r : Int} (h0 : M.slices_IndexFunc__int64 s1 f1 = some r) :
  wpF Try.prog ora wm 53 [v1, .func (.func gfn1) #[] gcap1] H (fun res H => res = .int .i64 r ∧ Kn wm H [] Fr) := by
 unfold M.slices_IndexFunc__int64 at h0
 refine f_enter (n := 19) Try.func53 rfl (by simp) hI rfl rfl rfl fun tm hS => ?_
 clear hI
 refine c_reg fun R hR => ?_
 refine o_pure hS (.inl rfl) rfl rfl ?_; clear hS; try clear tm
 intro tm hS
 refine o_nil (hR _ _ ?_)
 clear hR R
 refine c_seqS ?_
 refine c_reg fun R hR => ?_
 refine o_pure hS (.inl rfl) rfl rfl ?_; clear hS; try clear tm
 intro tm hS
 refine o_len (k := 0) (r := (rI .i64)) hS (.inl rfl) rfl rfl rfl (.inl rfl) Fu22 rfl ?_; clear hS; try clear tm
 intro tm hS
 refine o_pure hS (.inl rfl) rfl rfl ?_; clear hS; try clear tm
 intro tm hS
 refine o_nil (hR _ _ ?_)
 clear hR R
 obtain ⟨k1, hw1, h0⟩ := bindS h0
 refine wpC.block ?_
 refine c_loop (I := fun (s : Int) tm H => match (generalizing := false) s with | t1 => S wm 19 tm H [(0, v1), (1, .func (.func gfn1) #[] gcap1), (7, .int .i64 (s1.length : Int)), (8, .int .i64 t1)] (.fz (rI .i64) v1 s1 :: E) Fr) hw1 (by change S wm 19 _ _ _ _ Fr; exact hS.keep (ka_cons rfl (ka_cons rfl (ka_cons rfl (ka_cons rfl ka_nil)))) (fun hI => (hI.sub (sc sr)))) ?_
 clear hS
 intro t1 tm H c1 hS h1 hq1
 change S wm 19 tm H [(0, v1), (1, .func (.func gfn1) #[] gcap1), (7, .int .i64 (s1.length : Int)), (8, .int .i64 t1)] (.fz (rI .i64) v1 s1 :: E) Fr at hS
 refine c_reg fun R hR => ?_
 refine o_pure hS (.inl rfl) rfl rfl ?_; clear hS; try clear tm
 intro tm hS
 refine o_nil (hR _ _ ?_)
 clear hR R
 refine c_seqS ?_
 refine c_cond hS rfl (fun hc => ?_) (fun hc => ?_)
 ·replace h1 := iteT hc h1
  refine wpC.skip ?_
  refine c_seqS ?_
  refine wpC.block ?_
  refine c_reg fun R hR => ?_
  refine o_pure hS (.inl rfl) rfl rfl ?_; clear hS; try clear tm
  intro tm hS
  refine o_pure hS (.inl rfl) rfl rfl ?_; clear hS; try clear tm
  intro tm hS
  refine o_nil (hR _ _ ?_)
  clear hR R
  refine c_reg fun R hR => ?_
  refine o_pure hS (.inl rfl) rfl rfl ?_; clear hS; try clear tm
  intro tm hS
  refine o_pure hS (.inl rfl) rfl rfl ?_; clear hS; try clear tm
  intro tm hS
  refine o_pure hS (.inl rfl) rfl rfl ?_; clear hS; try clear tm
  intro tm hS
  obtain ⟨y1, hx1, h1⟩ := bindS h1
  refine o_ixA (k := 0) (r := (rI .i64)) hS (.inl rfl) rfl rfl rfl rfl (.inl rfl) Fu22 Fs2 hx1 ?_; clear hS; try clear tm
  intro tm hS
  refine o_ldF (r := (rI .i64)) (k := 0) hS (.inl rfl) rfl rfl rfl (.inl rfl) hx1 Fu2 rfl (flat_I _) rfl ?_; clear hS; try clear tm
  intro tm hS
  obtain ⟨r1, hx2, h1⟩ := bindS h1
  refine o_call hS (.inl rfl) rfl (fun wm' hw1 hw2 => hf y1  ((hS.sel hw2).adAll hE (fun e he => List.mem_cons_of_mem _ (he))) hx2) (fun wm' res H hw' hp => ?_)
  obtain ⟨hres, hI⟩ := hp
  replace hres := hres.symm; subst hres
  replace hS : S wm 19 _ H ((16, .bool r1) :: _) ([] ++ _) Fr := hS.after rfl hw' hI
  clear hI hw'
  refine o_nil (hR _ _ ?_)
  clear hR R
  refine c_cond hS rfl (fun hc => ?_) (fun hc => ?_)
  ·replace h1 := iteT hc h1
   refine c_reg fun R hR => ?_
   refine o_pure hS (.inl rfl) rfl rfl ?_; clear hS; try clear tm
   intro tm hS
   refine o_pure hS (.inl rfl) rfl rfl ?_; clear hS; try clear tm
   intro tm hS
   refine o_nil (hR _ _ ?_)
   clear hR R
   refine wpC.ret ?_
   obtain rfl := Option.some.inj h1
   obtain rfl := hq1 _ rfl
   refine And.intro rfl ?_
   obtain rfl := leave h0
   refine Exists.intro _ (And.intro (rs_tmp hS rfl rs_nil) ?_)
   have hI := hS.inv
   exact ⟨rfl, (hI.sub sn)⟩
  ·replace h1 := iteF hc h1
   refine wpC.skip ?_
   refine c_reg1 fun R hR => ?_
   refine o_pure hS (.inl rfl) rfl rfl ?_; clear hS; try clear tm
   intro tm hS
   refine o_pure hS (.inl rfl) rfl rfl ?_; clear hS; try clear tm
   intro tm hS
   refine o_nil (hR _ _ ?_)
   clear hR R
   obtain rfl := Option.some.inj h1
   refine ⟨_, rfl, ?_⟩
   change S wm 19 _ _ _ _ Fr; exact hS.keep (ka_cons rfl (ka_cons rfl (ka_cons rfl (ka_cons rfl ka_nil)))) (fun hI => (hI.sub (sc sr)))
 ·replace h1 := iteF hc h1
  refine wpC.exit ?_
  obtain rfl := Option.some.inj h1
  obtain rfl := hq1 _ rfl
  refine And.intro rfl (blk_eq ?_)
  replace h0 := joinN h0
  refine c_reg fun R hR => ?_
  refine o_pure hS (.inl rfl) rfl rfl ?_; clear hS; try clear tm
  intro tm hS
  refine o_nil (hR _ _ ?_)
  clear hR R
  refine wpC.ret ?_
  obtain rfl := Option.some.inj h0
  refine Exists.intro _ (And.intro (rs_tmp hS rfl rs_nil) ?_)
  have hI := hS.inv
  exact ⟨rfl, (hI.sub sn)⟩
theorem wk39 {wm : Nat} {H : AHeap} {Fr : List Ent}  (s1 : (List Int)) (f1 : (Int → Option (Bool))) (gfn1 : FuncId) (gcap1 : Array Value) (E : List Ent) (hE : ∀ e ∈ E, e.blk = none) (hf : ∀ {wm : Nat} {H : AHeap} {Fr : List Ent} (y0 : Int) , Kn wm H (E) Fr → ∀ {r : Bool}, f1 y0 = some r → wpF Try.prog ora wm gfn1 ([.int .i64 y0] ++ gcap1.toList) H (fun res H => res = .bool r ∧ Kn wm H [] Fr)) (v1 : Value) (hI : Kn wm H (.fz (rI .i64) v1 s1 :: E) Fr) {r : Bool} (h0 : M.slices_ContainsFunc__int64 s1 f1 = some r) :
  wpF Try.prog ora wm 39 [v1, .func (.func gfn1) #[] gcap1] H (fun res H => res = .bool r ∧ Kn wm H [] Fr) := by
 unfold M.slices_ContainsFunc__int64 at h0
 refine f_enter (n := 9) Try.func39 rfl (by simp) hI rfl rfl rfl fun tm hS => ?_
 clear hI
 refine c_reg fun R hR => ?_
 refine o_pure hS (.inl rfl) rfl rfl ?_; clear hS; try clear tm
 intro tm hS
 refine o_nil (hR _ _ ?_)
 clear hR R
 refine c_reg fun R hR => ?_
 refine o_pure hS (.inl rfl) rfl rfl ?_; clear hS; try clear tm
 intro tm hS
 refine o_pure hS (.inl rfl) rfl rfl ?_; clear hS; try clear tm
 intro tm hS
 obtain ⟨r1, hx1, h0⟩ := bindS h0
 refine o_call hS (.inl rfl) rfl (fun wm' hw1 hw2 => wk53  s1 f1 gfn1 gcap1 E hE hf v1 (((hS.sel hw2).adAll hE (fun e he => List.mem_cons_of_mem _ (he))).ad 0 rfl) hx1) (fun wm' res H hw' hp => ?_)
 obtain ⟨hres, hI⟩ := hp
 replace hres := hres.symm; subst hres
 replace hS : S wm 9 _ H ((7, .int .i64 r1) :: _) ([] ++ _) Fr := hS.after rfl hw' hI
 clear hI hw'
 refine o_pure hS (.inl rfl) rfl rfl ?_; clear hS; try clear tm
 intro tm hS
 refine o_pure hS (.inl rfl) rfl rfl ?_; clear hS; try clear tm
 intro tm hS
 refine o_nil (hR _ _ ?_)
 clear hR R
 refine wpC.ret ?_
 obtain rfl := Option.some.inj h0
 refine Exists.intro _ (And.intro (rs_tmp hS rfl rs_nil) ?_)
 have hI := hS.inv
 exact ⟨rfl, (hI.sub sn)⟩
theorem wk55 {wm : Nat} {H : AHeap} {Fr : List Ent}  (r1 : Int)   (hI : Kn wm H [] Fr) {r : Bool} (h0 : M.unicode_utf8_ValidRune r1 = some r) :
  wpF Try.prog ora wm 55 [.int .i32 r1] H (fun res H => res = .bool r ∧ Kn wm H [] Fr) := by
 unfold M.unicode_utf8_ValidRune at h0
 refine f_enter (n := 17) Try.func55 rfl (by simp) hI rfl rfl rfl fun tm hS => ?_
 clear hI
 refine c_reg fun R hR => ?_
 refine o_pure hS (.inl rfl) rfl rfl ?_; clear hS; try clear tm
 intro tm hS
 refine o_nil (hR _ _ ?_)
 clear hR R
 refine c_seqS ?_
 refine wpC.block ?_
 refine c_reg fun R hR => ?_
 refine o_pure hS (.inl rfl) rfl rfl ?_; clear hS; try clear tm
 intro tm hS
 refine o_pure hS (.inl rfl) rfl rfl ?_; clear hS; try clear tm
 intro tm hS
 refine o_pure hS (.inl rfl) rfl rfl ?_; clear hS; try clear tm
 intro tm hS
 obtain ⟨c1, hc1⟩ : ∃ x : Bool, x = ((decide (0 ≤ r1)) && (decide (r1 < 55296))) := ⟨_, rfl⟩
 refine o_cutN 3 (J := fun tm H => S wm 17 tm H [(9, .bool c1), (0, .int .i32 r1)] [] Fr) ?_ ?_
 ·rcases Bool.eq_false_or_eq_true (decide (0 ≤ r1)) with hg1 | hg1
  ·refine o_pure hS (.inr ⟨_, _, _, _, rfl, rfl, rfl, hg1⟩) rfl rfl ?_; clear hS; try clear tm
   intro tm hS
   refine o_pure hS (.inr ⟨_, _, _, _, rfl, rfl, rfl, hg1⟩) rfl rfl ?_; clear hS; try clear tm
   intro tm hS
   refine o_pickT hS (.inl rfl) rfl rfl hg1 rfl ?_; clear hS; try clear tm
   intro tm hS
   have hc1 : c1 = (decide (r1 < 55296)) := hc1.trans (by rw [hg1]; first | rfl | simp)
   subst hc1
   exact o_nil (hS.keep (ka_cons rfl (ka_cons rfl ka_nil)) (fun hI => (hI.sub sn)))
  ·refine o_skip hS rfl rfl rfl hg1 ?_; clear hS; try clear tm
   intro tm hS
   refine o_skip hS rfl rfl rfl hg1 ?_; clear hS; try clear tm
   intro tm hS
   refine o_pickF hS (.inl rfl) rfl rfl hg1 rfl ?_; clear hS; try clear tm
   intro tm hS
   have hc1 : c1 = false := hc1.trans (by rw [hg1]; first | rfl | simp)
   subst hc1
   exact o_nil (hS.keep (ka_cons rfl (ka_cons rfl ka_nil)) (fun hI => (hI.sub sn)))
 intro tm H hS
 subst hc1
 refine o_pure hS (.inl rfl) rfl rfl ?_; clear hS; try clear tm
 intro tm hS
 refine o_nil (hR _ _ ?_)
 clear hR R
 refine c_cond hS rfl (fun hc => ?_) (fun hc => ?_)
 ·replace h0 := iteT hc h0
  refine c_reg fun R hR => ?_
  refine o_pure hS (.inl rfl) rfl rfl ?_; clear hS; try clear tm
  intro tm hS
  refine o_nil (hR _ _ ?_)
  clear hR R
  refine wpC.ret ?_
  obtain rfl := Option.some.inj h0
  refine Exists.intro _ (And.intro (rs_tmp hS rfl rs_nil) ?_)
  have hI := hS.inv
  exact ⟨rfl, (hI.sub sn)⟩
 ·replace h0 := iteF hc h0
  refine c_reg fun R hR => ?_
  refine o_pure hS (.inl rfl) rfl rfl ?_; clear hS; try clear tm
  intro tm hS
  refine o_pure hS (.inl rfl) rfl rfl ?_; clear hS; try clear tm
  intro tm hS
  refine o_pure hS (.inl rfl) rfl rfl ?_; clear hS; try clear tm
  intro tm hS
  obtain ⟨c2, hc2⟩ : ∃ x : Bool, x = ((decide (57343 < r1)) && (decide (r1 ≤ 1114111))) := ⟨_, rfl⟩
  refine o_cutN 3 (J := fun tm H => S wm 17 tm H [(16, .bool c2)] [] Fr) ?_ ?_
  ·rcases Bool.eq_false_or_eq_true (decide (57343 < r1)) with hg2 | hg2
   ·refine o_pure hS (.inr ⟨_, _, _, _, rfl, rfl, rfl, hg2⟩) rfl rfl ?_; clear hS; try clear tm
    intro tm hS
    refine o_pure hS (.inr ⟨_, _, _, _, rfl, rfl, rfl, hg2⟩) rfl rfl ?_; clear hS; try clear tm
    intro tm hS
    refine o_pickT hS (.inl rfl) rfl rfl hg2 rfl ?_; clear hS; try clear tm
    intro tm hS
    have hc2 : c2 = (decide (r1 ≤ 1114111)) := hc2.trans (by rw [hg2]; first | rfl | simp)
    subst hc2
    exact o_nil (hS.keep (ka_cons rfl ka_nil) (fun hI => (hI.sub sn)))
   ·refine o_skip hS rfl rfl rfl hg2 ?_; clear hS; try clear tm
    intro tm hS
    refine o_skip hS rfl rfl rfl hg2 ?_; clear hS; try clear tm
    intro tm hS
    refine o_pickF hS (.inl rfl) rfl rfl hg2 rfl ?_; clear hS; try clear tm
    intro tm hS
    have hc2 : c2 = false := hc2.trans (by rw [hg2]; first | rfl | simp)
    subst hc2
    exact o_nil (hS.keep (ka_cons rfl ka_nil) (fun hI => (hI.sub sn)))
  intro tm H hS
  subst hc2
  refine o_pure hS (.inl rfl) rfl rfl ?_; clear hS; try clear tm
  intro tm hS
  refine o_nil (hR _ _ ?_)
  clear hR R
  refine c_cond hS rfl (fun hc => ?_) (fun hc => ?_)
  ·replace h0 := iteT hc h0
   refine c_reg fun R hR => ?_
   refine o_pure hS (.inl rfl) rfl rfl ?_; clear hS; try clear tm
   intro tm hS
   refine o_nil (hR _ _ ?_)
   clear hR R
   refine wpC.ret ?_
   obtain rfl := Option.some.inj h0
   refine Exists.intro _ (And.intro (rs_tmp hS rfl rs_nil) ?_)
   have hI := hS.inv
   exact ⟨rfl, (hI.sub sn)⟩
  ·replace h0 := iteF hc h0
   refine wpC.skip ?_
   refine c_reg fun R hR => ?_
   refine o_pure hS (.inl rfl) rfl rfl ?_; clear hS; try clear tm
   intro tm hS
   refine o_nil (hR _ _ ?_)
   clear hR R
   refine wpC.ret ?_
   obtain rfl := Option.some.inj h0
   refine Exists.intro _ (And.intro (rs_tmp hS rfl rs_nil) ?_)
   have hI := hS.inv
   exact ⟨rfl, (hI.sub sn)⟩
theorem wk46 {wm : Nat} {H : AHeap} {Fr : List Ent}  (n1 : Int)   (hI : Kn wm H [] Fr) {r : Bool} (h0 : M.value_character n1 = some r) :
  wpF Try.prog ora wm 46 [.int .i64 n1] H (fun res H => res = .bool r ∧ Kn wm H [] Fr) := by
 unfold M.value_character at h0
 refine f_enter (n := 14) Try.func46 rfl (by simp) hI rfl rfl rfl fun tm hS => ?_
 clear hI
 refine c_reg fun R hR => ?_
 refine o_pure hS (.inl rfl) rfl rfl ?_; clear hS; try clear tm
 intro tm hS
 refine o_nil (hR _ _ ?_)
 clear hR R
 refine c_reg fun R hR => ?_
 refine o_pure hS (.inl rfl) rfl rfl ?_; clear hS; try clear tm
 intro tm hS
 refine o_pure hS (.inl rfl) rfl rfl ?_; clear hS; try clear tm
 intro tm hS
 refine o_pure hS (.inl rfl) rfl rfl ?_; clear hS; try clear tm
 intro tm hS
 obtain ⟨c1, hc1⟩ : ∃ x : Bool, x = ((decide (n1 ≥ 0)) && (decide (n1 ≤ 1114111))) := ⟨_, rfl⟩
 refine o_cutN 3 (J := fun tm H => S wm 14 tm H [(8, .bool c1), (0, .int .i64 n1)] [] Fr) ?_ ?_
 ·rcases Bool.eq_false_or_eq_true (decide (n1 ≥ 0)) with hg1 | hg1
  ·refine o_pure hS (.inr ⟨_, _, _, _, rfl, rfl, rfl, hg1⟩) rfl rfl ?_; clear hS; try clear tm
   intro tm hS
   refine o_pure hS (.inr ⟨_, _, _, _, rfl, rfl, rfl, hg1⟩) rfl rfl ?_; clear hS; try clear tm
   intro tm hS
   refine o_pickT hS (.inl rfl) rfl rfl hg1 rfl ?_; clear hS; try clear tm
   intro tm hS
   have hc1 : c1 = (decide (n1 ≤ 1114111)) := hc1.trans (by rw [hg1]; first | rfl | simp)
   subst hc1
   exact o_nil (hS.keep (ka_cons rfl (ka_cons rfl ka_nil)) (fun hI => (hI.sub sn)))
  ·refine o_skip hS rfl rfl rfl hg1 ?_; clear hS; try clear tm
   intro tm hS
   refine o_skip hS rfl rfl rfl hg1 ?_; clear hS; try clear tm
   intro tm hS
   refine o_pickF hS (.inl rfl) rfl rfl hg1 rfl ?_; clear hS; try clear tm
   intro tm hS
   have hc1 : c1 = false := hc1.trans (by rw [hg1]; first | rfl | simp)
   subst hc1
   exact o_nil (hS.keep (ka_cons rfl (ka_cons rfl ka_nil)) (fun hI => (hI.sub sn)))
 intro tm H hS
 subst hc1
 refine o_pure hS (.inl rfl) rfl rfl ?_; clear hS; try clear tm
 intro tm hS
 obtain ⟨c2, hc2, h0⟩ := bindS h0
 refine o_cutN 4 (J := fun tm H => S wm 14 tm H [(13, .bool c2)] [] Fr) ?_ ?_
 ·rcases Bool.eq_false_or_eq_true ((decide (n1 ≥ 0)) && (decide (n1 ≤ 1114111))) with hg2 | hg2
  ·replace hc2 := iteT hg2 hc2
   refine o_pure hS (.inr ⟨_, _, _, _, rfl, rfl, rfl, hg2⟩) rfl rfl ?_; clear hS; try clear tm
   intro tm hS
   refine o_pure hS (.inr ⟨_, _, _, _, rfl, rfl, rfl, hg2⟩) rfl rfl ?_; clear hS; try clear tm
   intro tm hS
   obtain ⟨r1, hx1, hc2⟩ := bindS hc2
   refine o_call hS (.inr ⟨_, _, _, _, rfl, rfl, rfl, hg2⟩) rfl (fun wm' hw1 hw2 => wk55  (IntKind.i32.wrap n1)   (hS.sel hw2) hx1) (fun wm' res H hw' hp => ?_)
   obtain ⟨hres, hI⟩ := hp
   replace hres := hres.symm; subst hres
   replace hS : S wm 14 _ H ((12, .bool r1) :: _) ([] ++ _) Fr := hS.after rfl hw' hI
   clear hI hw'
   refine o_pickT hS (.inl rfl) rfl rfl hg2 rfl ?_; clear hS; try clear tm
   intro tm hS
   obtain rfl := Option.some.inj hc2
   exact o_nil (hS.keep (ka_cons rfl ka_nil) (fun hI => (hI.sub sn)))
  ·replace hc2 := iteF hg2 hc2
   refine o_skip hS rfl rfl rfl hg2 ?_; clear hS; try clear tm
   intro tm hS
   refine o_skip hS rfl rfl rfl hg2 ?_; clear hS; try clear tm
   intro tm hS
   refine o_skip hS rfl rfl rfl hg2 ?_; clear hS; try clear tm
   intro tm hS
   refine o_pickF hS (.inl rfl) rfl rfl hg2 rfl ?_; clear hS; try clear tm
   intro tm hS
   obtain rfl := Option.some.inj hc2
   exact o_nil (hS.keep (ka_cons rfl ka_nil) (fun hI => (hI.sub sn)))
 intro tm H hS
 refine o_pure hS (.inl rfl) rfl rfl ?_; clear hS; try clear tm
 intro tm hS
 refine o_nil (hR _ _ ?_)
 clear hR R
 refine wpC.ret ?_
 obtain rfl := Option.some.inj h0
 refine Exists.intro _ (And.intro (rs_tmp hS rfl rs_nil) ?_)
 have hI := hS.inv
 exact ⟨rfl, (hI.sub sn)⟩
theorem wk45 {wm : Nat} {H : AHeap} {Fr : List Ent}  (n1 : Int)   (hI : Kn wm H [] Fr) {r : Bool} (h0 : M.value_Right_1 n1 = some r) :
  wpF Try.prog ora wm 45 [.int .i64 n1] H (fun res H => res = .bool r ∧ Kn wm H [] Fr) := by
 unfold M.value_Right_1 at h0
 refine f_enter (n := 6) Try.func45 rfl (by simp) hI rfl rfl rfl fun tm hS => ?_
 clear hI
 refine c_reg fun R hR => ?_
 refine o_pure hS (.inl rfl) rfl rfl ?_; clear hS; try clear tm
 intro tm hS
 refine o_nil (hR _ _ ?_)
 clear hR R
 refine c_reg fun R hR => ?_
 refine o_pure hS (.inl rfl) rfl rfl ?_; clear hS; try clear tm
 intro tm hS
 obtain ⟨r1, hx1, h0⟩ := bindS h0
 refine o_call hS (.inl rfl) rfl (fun wm' hw1 hw2 => wk46  n1   (hS.sel hw2) hx1) (fun wm' res H hw' hp => ?_)
 obtain ⟨hres, hI⟩ := hp
 replace hres := hres.symm; subst hres
 replace hS : S wm 6 _ H ((4, .bool r1) :: _) ([] ++ _) Fr := hS.after rfl hw' hI
 clear hI hw'
 refine o_pure hS (.inl rfl) rfl rfl ?_; clear hS; try clear tm
 intro tm hS
 refine o_pure hS (.inl rfl) rfl rfl ?_; clear hS; try clear tm
 intro tm hS
 refine o_nil (hR _ _ ?_)
 clear hR R
 refine wpC.ret ?_
 obtain rfl := Option.some.inj h0
 refine Exists.intro _ (And.intro (rs_tmp hS rfl rs_nil) ?_)
 have hI := hS.inv
 exact ⟨rfl, (hI.sub sn)⟩
theorem wk30 {wm : Nat} {H : AHeap} {Fr : List Ent}  (v1 : Val)  (v2 : Value) (v3 : Value) (hI : Kn wm H [.fz (rI .i64) v2 v1.Shape, .fz (rI .i64) v3 v1.Data] Fr) {r : Bool} (h0 : M.value_Right v1 = some r) :
  wpF Try.prog ora wm 30 [.agg #[.bool v1.Char, v2, v3]] H (fun res H => res = .bool r ∧ Kn wm H [] Fr) := by
 unfold M.value_Right at h0
 refine f_enter (n := 45) Try.func30 rfl (by simp) hI rfl rfl rfl fun tm hS => ?_
 clear hI
 refine c_reg fun R hR => ?_
 refine o_box hS (.inl rfl) rfl rfl rfl (all_cons rfl (all_cons (hS.one (k := 0) rfl (.inl rfl)) (all_cons (hS.one (k := 1) rfl (.inl rfl)) all_nil))) ?_; clear hS; try clear tm H
 intro b1 tm H hS
 refine o_pure hS (.inl rfl) rfl rfl ?_; clear hS; try clear tm
 intro tm hS
 refine o_nil (hR _ _ ?_)
 clear hR R
 refine c_seqS ?_
 refine c_reg fun R hR => ?_
 refine o_pure hS (.inl rfl) rfl rfl ?_; clear hS; try clear tm
 intro tm hS
 refine o_ld1 (k := 0) hS (.inl rfl) rfl rfl rfl (.inl rfl) Fu23 rfl rfl ?_; clear hS; try clear tm
 intro tm hS
 refine o_len (k := 1) (r := (rI .i64)) hS (.inl rfl) rfl rfl rfl (.inl rfl) Fu23 rfl ?_; clear hS; try clear tm
 intro tm hS
 refine o_pure hS (.inl rfl) rfl rfl ?_; clear hS; try clear tm
 intro tm hS
 refine o_nil (hR _ _ ?_)
 clear hR R
 refine c_cond hS rfl (fun hc => ?_) (fun hc => ?_)
 ·replace h0 := iteT hc h0
  refine c_reg fun R hR => ?_
  refine o_pure hS (.inl rfl) rfl rfl ?_; clear hS; try clear tm
  intro tm hS
  refine o_nil (hR _ _ ?_)
  clear hR R
  refine wpC.ret ?_
  obtain rfl := Option.some.inj h0
  refine Exists.intro _ (And.intro (rs_tmp hS rfl rs_nil) ?_)
  have hI := hS.inv
  exact ⟨rfl, (hI.sub sn)⟩
 ·replace h0 := iteF hc h0
  refine wpC.skip ?_
  refine c_reg fun R hR => ?_
  refine o_pure hS (.inl rfl) rfl rfl ?_; clear hS; try clear tm
  intro tm hS
  refine o_nil (hR _ _ ?_)
  clear hR R
  refine c_seqS ?_
  refine c_reg fun R hR => ?_
  refine o_pure hS (.inl rfl) rfl rfl ?_; clear hS; try clear tm
  intro tm hS
  refine o_ld1 (k := 0) hS (.inl rfl) rfl rfl rfl (.inl rfl) Fu23 rfl rfl ?_; clear hS; try clear tm
  intro tm hS
  refine o_len (k := 1) (r := (rI .i64)) hS (.inl rfl) rfl rfl rfl (.inl rfl) Fu23 rfl ?_; clear hS; try clear tm
  intro tm hS
  refine o_pure hS (.inl rfl) rfl rfl ?_; clear hS; try clear tm
  intro tm hS
  refine o_nil (hR _ _ ?_)
  clear hR R
  obtain ⟨k1, hw1, h0⟩ := bindS h0
  refine wpC.block ?_
  refine c_loop (I := fun (s : Int × Int) tm H => match (generalizing := false) s with | (size1, t1) => S wm 45 tm H [(1, .pointer (some ⟨b1, 0, none⟩)), (3, .int .i64 size1), (11, v2), (12, .int .i64 (v1.Shape.length : Int)), (13, .int .i64 t1)] [.box b1 [.bool v1.Char, v2, v3], .fz (rI .i64) v2 v1.Shape, .fz (rI .i64) v3 v1.Data] Fr) hw1 (by change S wm 45 _ _ _ _ Fr; exact hS.keep (ka_cons rfl (ka_cons rfl (ka_cons rfl (ka_cons rfl (ka_cons rfl ka_nil))))) (fun hI => (hI.sub (sc (sc (sc sn)))))) ?_
  clear hS
  intro s1 tm H c1 hS h1 hq1
  obtain ⟨size1, t1⟩ := s1
  change S wm 45 tm H [(1, .pointer (some ⟨b1, 0, none⟩)), (3, .int .i64 size1), (11, v2), (12, .int .i64 (v1.Shape.length : Int)), (13, .int .i64 t1)] [.box b1 [.bool v1.Char, v2, v3], .fz (rI .i64) v2 v1.Shape, .fz (rI .i64) v3 v1.Data] Fr at hS
  refine c_reg fun R hR => ?_
  refine o_pure hS (.inl rfl) rfl rfl ?_; clear hS; try clear tm
  intro tm hS
  refine o_nil (hR _ _ ?_)
  clear hR R
  refine c_seqS ?_
  refine c_cond hS rfl (fun hc => ?_) (fun hc => ?_)
  ·replace h1 := iteT hc h1
   refine wpC.skip ?_
   refine c_seqS ?_
   refine wpC.block ?_
   refine c_reg fun R hR => ?_
   obtain ⟨y1, hx1, h1⟩ := bindS h1
   refine o_ixA (k := 1) (r := (rI .i64)) hS (.inl rfl) rfl rfl rfl rfl (.inl rfl) Fu23 Fs3 hx1 ?_; clear hS; try clear tm
   intro tm hS
   refine o_ldF (r := (rI .i64)) (k := 1) hS (.inl rfl) rfl rfl rfl (.inl rfl) hx1 Fu3 rfl (flat_I _) rfl ?_; clear hS; try clear tm
   intro tm hS
   refine o_pure hS (.inl rfl) rfl rfl ?_; clear hS; try clear tm
   intro tm hS
   refine o_nil (hR _ _ ?_)
   clear hR R
   refine c_seqS ?_
   refine c_reg fun R hR => ?_
   refine o_pure hS (.inl rfl) rfl rfl ?_; clear hS; try clear tm
   intro tm hS
   refine o_pure hS (.inl rfl) rfl rfl ?_; clear hS; try clear tm
   intro tm hS
   refine o_pure hS (.inl rfl) rfl rfl ?_; clear hS; try clear tm
   intro tm hS
   obtain ⟨c2, hc1⟩ : ∃ x : Bool, x = ((decide (y1 < 0)) || (decide (y1 > 10000))) := ⟨_, rfl⟩
   refine o_cutN 3 (J := fun tm H => S wm 45 tm H [(22, .bool c2), (1, .pointer (some ⟨b1, 0, none⟩)), (3, .int .i64 size1), (11, v2), (12, .int .i64 (v1.Shape.length : Int)), (13, .int .i64 t1), (5, .int .i64 y1)] [.box b1 [.bool v1.Char, v2, v3], .fz (rI .i64) v2 v1.Shape, .fz (rI .i64) v3 v1.Data] Fr) ?_ ?_
   ·rcases Bool.eq_false_or_eq_true (decide (y1 < 0)) with hg1 | hg1
    ·refine o_skip hS rfl rfl rfl hg1 ?_; clear hS; try clear tm
     intro tm hS
     refine o_skip hS rfl rfl rfl hg1 ?_; clear hS; try clear tm
     intro tm hS
     refine o_pickT hS (.inl rfl) rfl rfl hg1 rfl ?_; clear hS; try clear tm
     intro tm hS
     have hc1 : c2 = true := hc1.trans (by rw [hg1]; first | rfl | simp)
     subst hc1
     exact o_nil (hS.keep (ka_cons rfl (ka_cons rfl (ka_cons rfl (ka_cons rfl (ka_cons rfl (ka_cons rfl (ka_cons rfl ka_nil))))))) (fun hI => (hI.sub (sc (sc (sc sn))))))
    ·refine o_pure hS (.inr ⟨_, _, _, _, rfl, rfl, rfl, hg1⟩) rfl rfl ?_; clear hS; try clear tm
     intro tm hS
     refine o_pure hS (.inr ⟨_, _, _, _, rfl, rfl, rfl, hg1⟩) rfl rfl ?_; clear hS; try clear tm
     intro tm hS
     refine o_pickF hS (.inl rfl) rfl rfl hg1 rfl ?_; clear hS; try clear tm
     intro tm hS
     have hc1 : c2 = (decide (y1 > 10000)) := hc1.trans (by rw [hg1]; first | rfl | simp)
     subst hc1
     exact o_nil (hS.keep (ka_cons rfl (ka_cons rfl (ka_cons rfl (ka_cons rfl (ka_cons rfl (ka_cons rfl (ka_cons rfl ka_nil))))))) (fun hI => (hI.sub (sc (sc (sc sn))))))
   intro tm H hS
   subst hc1
   refine o_nil (hR _ _ ?_)
   clear hR R
   refine c_cond hS rfl (fun hc => ?_) (fun hc => ?_)
   ·replace h1 := iteT hc h1
    refine c_reg fun R hR => ?_
    refine o_pure hS (.inl rfl) rfl rfl ?_; clear hS; try clear tm
    intro tm hS
    refine o_nil (hR _ _ ?_)
    clear hR R
    refine wpC.ret ?_
    obtain rfl := Option.some.inj h1
    obtain rfl := hq1 _ rfl
    refine And.intro rfl ?_
    obtain rfl := leave h0
    refine Exists.intro _ (And.intro (rs_tmp hS rfl rs_nil) ?_)
    have hI := hS.inv
    exact ⟨rfl, (hI.sub sn)⟩
   ·replace h1 := iteF hc h1
    refine wpC.skip ?_
    refine c_reg1 fun R hR => ?_
    refine o_pure hS (.inl rfl) rfl rfl ?_; clear hS; try clear tm
    intro tm hS
    refine o_pure hS (.inl rfl) rfl rfl ?_; clear hS; try clear tm
    intro tm hS
    refine o_pure hS (.inl rfl) rfl rfl ?_; clear hS; try clear tm
    intro tm hS
    refine o_pure hS (.inl rfl) rfl rfl ?_; clear hS; try clear tm
    intro tm hS
    refine o_nil (hR _ _ ?_)
    clear hR R
    refine c_reg1 fun R hR => ?_
    refine o_pure hS (.inl rfl) rfl rfl ?_; clear hS; try clear tm
    intro tm hS
    refine o_pure hS (.inl rfl) rfl rfl ?_; clear hS; try clear tm
    intro tm hS
    refine o_nil (hR _ _ ?_)
    clear hR R
    obtain rfl := Option.some.inj h1
    refine ⟨_, rfl, ?_⟩
    change S wm 45 _ _ _ _ Fr; exact hS.keep (ka_cons rfl (ka_cons rfl (ka_cons rfl (ka_cons rfl (ka_cons rfl ka_nil))))) (fun hI => (hI.sub (sc (sc (sc sn)))))
  ·replace h1 := iteF hc h1
   refine wpC.exit ?_
   obtain rfl := Option.some.inj h1
   obtain rfl := hq1 _ rfl
   refine And.intro rfl (blk_eq ?_)
   replace h0 := joinN h0
   refine c_seqS ?_
   refine c_reg fun R hR => ?_
   refine o_pure hS (.inl rfl) rfl rfl ?_; clear hS; try clear tm
   intro tm hS
   refine o_pure hS (.inl rfl) rfl rfl ?_; clear hS; try clear tm
   intro tm hS
   refine o_pure hS (.inl rfl) rfl rfl ?_; clear hS; try clear tm
   intro tm hS
   obtain ⟨c3, hc2⟩ : ∃ x : Bool, x = ((decide (size1 > 10000)) || (size1 != (v1.Data.length : Int))) := ⟨_, rfl⟩
   refine o_cutN 6 (J := fun tm H => S wm 45 tm H [(35, .bool c3), (1, .pointer (some ⟨b1, 0, none⟩))] [.box b1 [.bool v1.Char, v2, v3], .fz (rI .i64) v2 v1.Shape, .fz (rI .i64) v3 v1.Data] Fr) ?_ ?_
   ·rcases Bool.eq_false_or_eq_true (decide (size1 > 10000)) with hg2 | hg2
    ·refine o_skip hS rfl rfl rfl hg2 ?_; clear hS; try clear tm
     intro tm hS
     refine o_skip hS rfl rfl rfl hg2 ?_; clear hS; try clear tm
     intro tm hS
     refine o_skip hS rfl rfl rfl hg2 ?_; clear hS; try clear tm
     intro tm hS
     refine o_skip hS rfl rfl rfl hg2 ?_; clear hS; try clear tm
     intro tm hS
     refine o_skip hS rfl rfl rfl hg2 ?_; clear hS; try clear tm
     intro tm hS
     refine o_pickT hS (.inl rfl) rfl rfl hg2 rfl ?_; clear hS; try clear tm
     intro tm hS
     have hc2 : c3 = true := hc2.trans (by rw [hg2]; first | rfl | simp)
     subst hc2
     exact o_nil (hS.keep (ka_cons rfl (ka_cons rfl ka_nil)) (fun hI => (hI.sub (sc (sc (sc sn))))))
    ·refine o_pure hS (.inr ⟨_, _, _, _, rfl, rfl, rfl, hg2⟩) rfl rfl ?_; clear hS; try clear tm
     intro tm hS
     refine o_pure hS (.inr ⟨_, _, _, _, rfl, rfl, rfl, hg2⟩) rfl rfl ?_; clear hS; try clear tm
     intro tm hS
     refine o_ld1 (k := 0) hS (.inr ⟨_, _, _, _, rfl, rfl, rfl, hg2⟩) rfl rfl rfl (.inl rfl) Fu22 rfl rfl ?_; clear hS; try clear tm
     intro tm hS
     refine o_len (k := 2) (r := (rI .i64)) hS (.inr ⟨_, _, _, _, rfl, rfl, rfl, hg2⟩) rfl rfl rfl (.inl rfl) Fu22 rfl ?_; clear hS; try clear tm
     intro tm hS
     refine o_pure hS (.inr ⟨_, _, _, _, rfl, rfl, rfl, hg2⟩) rfl rfl ?_; clear hS; try clear tm
     intro tm hS
     refine o_pickF hS (.inl rfl) rfl rfl hg2 rfl ?_; clear hS; try clear tm
     intro tm hS
     have hc2 : c3 = (size1 != (v1.Data.length : Int)) := hc2.trans (by rw [hg2]; first | rfl | simp)
     subst hc2
     exact o_nil (hS.keep (ka_cons rfl (ka_cons rfl ka_nil)) (fun hI => (hI.sub (sc (sc (sc sn))))))
   intro tm H hS
   subst hc2
   refine o_nil (hR _ _ ?_)
   clear hR R
   refine c_cond hS rfl (fun hc => ?_) (fun hc => ?_)
   ·replace h0 := iteT hc h0
    refine c_reg fun R hR => ?_
    refine o_pure hS (.inl rfl) rfl rfl ?_; clear hS; try clear tm
    intro tm hS
    refine o_nil (hR _ _ ?_)
    clear hR R
    refine wpC.ret ?_
    obtain rfl := Option.some.inj h0
    refine Exists.intro _ (And.intro (rs_tmp hS rfl rs_nil) ?_)
    have hI := hS.inv
    exact ⟨rfl, (hI.sub sn)⟩
   ·replace h0 := iteF hc h0
    refine wpC.skip ?_
    refine c_reg fun R hR => ?_
    refine o_pure hS (.inl rfl) rfl rfl ?_; clear hS; try clear tm
    intro tm hS
    refine o_ld1 (k := 0) hS (.inl rfl) rfl rfl rfl (.inl rfl) Fu4 rfl rfl ?_; clear hS; try clear tm
    intro tm hS
    refine o_pure hS (.inl rfl) rfl rfl ?_; clear hS; try clear tm
    intro tm hS
    refine o_pure hS (.inl rfl) rfl rfl ?_; clear hS; try clear tm
    intro tm hS
    obtain ⟨c4, hc3, h0⟩ := bindS h0
    refine o_cutN 5 (J := fun tm H => S wm 45 tm H [(44, .bool c4)] [] Fr) ?_ ?_
    ·rcases Bool.eq_false_or_eq_true (!v1.Char) with hg3 | hg3
     ·replace hc3 := iteT hg3 hc3
      refine o_skip hS rfl rfl rfl hg3 ?_; clear hS; try clear tm
      intro tm hS
      refine o_skip hS rfl rfl rfl hg3 ?_; clear hS; try clear tm
      intro tm hS
      refine o_skip hS rfl rfl rfl hg3 ?_; clear hS; try clear tm
      intro tm hS
      refine o_skip hS rfl rfl rfl hg3 ?_; clear hS; try clear tm
      intro tm hS
      refine o_pickT hS (.inl rfl) rfl rfl hg3 rfl ?_; clear hS; try clear tm
      intro tm hS
      obtain rfl := Option.some.inj hc3
      exact o_nil (hS.keep (ka_cons rfl ka_nil) (fun hI => (hI.sub sn)))
     ·replace hc3 := iteF hg3 hc3
      refine o_pure hS (.inr ⟨_, _, _, _, rfl, rfl, rfl, hg3⟩) rfl rfl ?_; clear hS; try clear tm
      intro tm hS
      refine o_ld1 (k := 0) hS (.inr ⟨_, _, _, _, rfl, rfl, rfl, hg3⟩) rfl rfl rfl (.inl rfl) Fu22 rfl rfl ?_; clear hS; try clear tm
      intro tm hS
      obtain ⟨r1, hx2, hc3⟩ := bindS hc3
      refine o_call hS (.inr ⟨_, _, _, _, rfl, rfl, rfl, hg3⟩) rfl (fun wm' hw1 hw2 => wk39  v1.Data (fun x0 => M.value_Right_1 x0) 45 #[] [] (by simp [Ent.blk]) (fun x0 hI _ h0 => wk45  x0   hI h0) v3 ((hS.sel hw2).ad 2 rfl) hx2) (fun wm' res H hw' hp => ?_)
      obtain ⟨hres, hI⟩ := hp
      replace hres := hres.symm; subst hres
      replace hS : S wm 45 _ H ((42, .bool r1) :: _) ([] ++ _) Fr := hS.after rfl hw' hI
      clear hI hw'
      refine o_pure hS (.inr ⟨_, _, _, _, rfl, rfl, rfl, hg3⟩) rfl rfl ?_; clear hS; try clear tm
      intro tm hS
      refine o_pickF hS (.inl rfl) rfl rfl hg3 rfl ?_; clear hS; try clear tm
      intro tm hS
      obtain rfl := Option.some.inj hc3
      exact o_nil (hS.keep (ka_cons rfl ka_nil) (fun hI => (hI.sub sn)))
    intro tm H hS
    refine o_pure hS (.inl rfl) rfl rfl ?_; clear hS; try clear tm
    intro tm hS
    refine o_nil (hR _ _ ?_)
    clear hR R
    refine wpC.ret ?_
    obtain rfl := Option.some.inj h0
    refine Exists.intro _ (And.intro (rs_tmp hS rfl rs_nil) ?_)
    have hI := hS.inv
    exact ⟨rfl, (hI.sub sn)⟩
theorem wk40 {wm : Nat} {H : AHeap} {Fr : List Ent}  (n1 : Int)   (hI : Kn wm H [] Fr) {r : Bool} (h0 : M.rand_Roll_1 n1 = some r) :
  wpF Try.prog ora wm 40 [.int .i64 n1] H (fun res H => res = .bool r ∧ Kn wm H [] Fr) := by
 unfold M.rand_Roll_1 at h0
 refine f_enter (n := 5) Try.func40 rfl (by simp) hI rfl rfl rfl fun tm hS => ?_
 clear hI
 refine c_reg fun R hR => ?_
 refine o_pure hS (.inl rfl) rfl rfl ?_; clear hS; try clear tm
 intro tm hS
 refine o_nil (hR _ _ ?_)
 clear hR R
 refine c_reg fun R hR => ?_
 refine o_pure hS (.inl rfl) rfl rfl ?_; clear hS; try clear tm
 intro tm hS
 refine o_pure hS (.inl rfl) rfl rfl ?_; clear hS; try clear tm
 intro tm hS
 refine o_pure hS (.inl rfl) rfl rfl ?_; clear hS; try clear tm
 intro tm hS
 refine o_nil (hR _ _ ?_)
 clear hR R
 refine wpC.ret ?_
 obtain rfl := Option.some.inj h0
 refine Exists.intro _ (And.intro (rs_tmp hS rfl rs_nil) ?_)
 have hI := hS.inv
 exact ⟨rfl, (hI.sub sn)⟩
theorem wk52 {wm : Nat} {H : AHeap} {Fr : List Ent} (s1 : (List Int)) (v1 : Value) (hI : Kn wm H [.fz (rI .i64) v1 s1] Fr) {r : (List Int)} (h0 : M.slices_Clone__int s1 = some r) :
  wpF Try.prog ora wm 52 [v1] H (fun res H => ∃ v2, res = v2 ∧ Kn wm H [.own (rI .i64) v2 r] Fr) := by
 unfold M.slices_Clone__int at h0
 refine f_enter (n := 8) Try.func52 rfl (by simp) hI rfl rfl rfl fun tm hS => ?_
 refine c_reg fun R hR => ?_
 refine o_pure hS (.inl rfl) rfl rfl fun tm hS => ?_
 refine o_nil (hR _ _ ?_)
 refine c_seqS ?_
 refine c_reg fun R hR => ?_
 refine o_pure hS (.inl rfl) rfl rfl fun tm hS => ?_
 refine o_nilcmp (k := 0) (r := (rI .i64)) hS (.inl rfl) rfl rfl rfl rfl (.inl rfl) Fu23 (fun hl tm hS => ?_) (fun tm hS => ?_)
 ·subst hl
  have hr : r = [] := by simpa [app] using h0.symm
  subst hr
  refine o_nil (hR _ _ ?_)
  refine c_cond hS rfl (fun _ => ?_) (fun h => by cases h)
  refine c_reg fun R hR => ?_
  refine o_pure hS (.inl rfl) rfl rfl fun tm hS => ?_
  refine o_nil (hR _ _ ?_)
  refine wpC.ret ?_
  replace hS := hS.nilOwn (rI .i64)
  refine Exists.intro _ (And.intro (rs_tmp hS rfl rs_nil) ?_)
  exact ⟨_, rfl, hS.inv.take 1⟩
 ·refine o_nil (hR _ _ ?_)
  refine c_cond hS rfl (fun h => by cases h) (fun _ => ?_)
  refine wpC.skip ?_
  refine c_reg fun R hR => ?_
  refine o_lit (r := (rI .i64)) (l := []) hS (.inl rfl) rfl Fl23 rfl rfl rfl .nil rfl rfl ri_nil rfl fun v2 tm H hS => ?_
  refine o_pure hS (.inl rfl) rfl rfl fun tm hS => ?_
  refine o_appL (k1 := 0) (k2 := 1) (r := (rI .i64)) hS (.inl rfl) rfl rfl rfl rfl rfl (.inl rfl) rfl Fe23_23 h0 fun v3 tm H hS => ?_
  refine o_pure hS (.inl rfl) rfl rfl fun tm hS => ?_
  refine o_nil (hR _ _ ?_)
  refine wpC.ret ?_
  refine Exists.intro _ (And.intro (rs_tmp hS rfl rs_nil) ?_)
  exact ⟨_, rfl, hS.inv.take 1⟩
theorem wk51 {wm : Nat} {H : AHeap} {Fr : List Ent} (s1 : (List Int)) (v1 : Value) (hI : Kn wm H [.fz (rI .i64) v1 s1] Fr) {r : (List Int)} (h0 : M.slices_Clone__int64 s1 = some r) :
  wpF Try.prog ora wm 51 [v1] H (fun res H => ∃ v2, res = v2 ∧ Kn wm H [.own (rI .i64) v2 r] Fr) := by
 unfold M.slices_Clone__int64 at h0
 refine f_enter (n := 8) Try.func51 rfl (by simp) hI rfl rfl rfl fun tm hS => ?_
 refine c_reg fun R hR => ?_
 refine o_pure hS (.inl rfl) rfl rfl fun tm hS => ?_
 refine o_nil (hR _ _ ?_)
 refine c_seqS ?_
 refine c_reg fun R hR => ?_
 refine o_pure hS (.inl rfl) rfl rfl fun tm hS => ?_
 refine o_nilcmp (k := 0) (r := (rI .i64)) hS (.inl rfl) rfl rfl rfl rfl (.inl rfl) Fu22 (fun hl tm hS => ?_) (fun tm hS => ?_)
 ·subst hl
  have hr : r = [] := by simpa [app] using h0.symm
  subst hr
  refine o_nil (hR _ _ ?_)
  refine c_cond hS rfl (fun _ => ?_) (fun h => by cases h)
  refine c_reg fun R hR => ?_
  refine o_pure hS (.inl rfl) rfl rfl fun tm hS => ?_
  refine o_nil (hR _ _ ?_)
  refine wpC.ret ?_
  replace hS := hS.nilOwn (rI .i64)
  refine Exists.intro _ (And.intro (rs_tmp hS rfl rs_nil) ?_)
  exact ⟨_, rfl, hS.inv.take 1⟩
 ·refine o_nil (hR _ _ ?_)
  refine c_cond hS rfl (fun h => by cases h) (fun _ => ?_)
  refine wpC.skip ?_
  refine c_reg fun R hR => ?_
  refine o_lit (r := (rI .i64)) (l := []) hS (.inl rfl) rfl Fl22 rfl rfl rfl .nil rfl rfl ri_nil rfl fun v2 tm H hS => ?_
  refine o_pure hS (.inl rfl) rfl rfl fun tm hS => ?_
  refine o_appL (k1 := 0) (k2 := 1) (r := (rI .i64)) hS (.inl rfl) rfl rfl rfl rfl rfl (.inl rfl) rfl Fe22_22 h0 fun v3 tm H hS => ?_
  refine o_pure hS (.inl rfl) rfl rfl fun tm hS => ?_
  refine o_nil (hR _ _ ?_)
  refine wpC.ret ?_
  refine Exists.intro _ (And.intro (rs_tmp hS rfl rs_nil) ?_)
  exact ⟨_, rfl, hS.inv.take 1⟩
theorem wk38 {wm : Nat} {H : AHeap} {Fr : List Ent}  (v1 : Val)  (v2 : Value) (v3 : Value) (hI : Kn wm H [.fz (rI .i64) v2 v1.Shape, .fz (rI .i64) v3 v1.Data] Fr) {r : Val} (h0 : M.value_Copy v1 = some r) :
  wpF Try.prog ora wm 38 [.agg #[.bool v1.Char, v2, v3]] H (fun res H => ∃ v6 v7, res = .agg #[.bool r.Char, v6, v7] ∧ Kn wm H [.own (rI .i64) v6 r.Shape, .own (rI .i64) v7 r.Data] Fr) := by
 unfold M.value_Copy at h0
 refine f_enter (n := 12) Try.func38 rfl (by simp) hI rfl rfl rfl fun tm hS => ?_
 clear hI
 refine c_reg fun R hR => ?_
 refine o_box hS (.inl rfl) rfl rfl rfl (all_cons rfl (all_cons (hS.one (k := 0) rfl (.inl rfl)) (all_cons (hS.one (k := 1) rfl (.inl rfl)) all_nil))) ?_; clear hS; try clear tm H
 intro b1 tm H hS
 refine o_alloc hS (.inl rfl) rfl Fz25 (by decide) ?_; clear hS; try clear tm H
 intro b2 tm H hS
 refine o_nil (hR _ _ ?_)
 clear hR R
 refine c_reg fun R hR => ?_
 refine o_pure hS (.inl rfl) rfl rfl ?_; clear hS; try clear tm
 intro tm hS
 refine o_ld1 (k := 1) hS (.inl rfl) rfl rfl rfl (.inl rfl) Fu4 rfl rfl ?_; clear hS; try clear tm
 intro tm hS
 refine o_pure hS (.inl rfl) rfl rfl ?_; clear hS; try clear tm
 intro tm hS
 refine o_ld1 (k := 1) hS (.inl rfl) rfl rfl rfl (.inl rfl) Fu23 rfl rfl ?_; clear hS; try clear tm
 intro tm hS
 obtain ⟨r1, hx1, h0⟩ := bindS h0
 refine o_call hS (.inl rfl) rfl (fun wm' hw1 hw2 => wk52  v1.Shape  v2 ((hS.sel hw2).ad 2 rfl) hx1) (fun wm' res H hw' hp => ?_)
 obtain ⟨v4, hres, hI⟩ := hp
 replace hres := hres.symm; subst hres
 replace hS : S wm 12 _ H ((7, v4) :: _) ([.own (rI .i64) v4 r1] ++ _) Fr := hS.after rfl hw' hI
 clear hI hw'
 refine o_pure hS (.inl rfl) rfl rfl ?_; clear hS; try clear tm
 intro tm hS
 refine o_ld1 (k := 2) hS (.inl rfl) rfl rfl rfl (.inl rfl) Fu22 rfl rfl ?_; clear hS; try clear tm
 intro tm hS
 obtain ⟨r2, hx2, h0⟩ := bindS h0
 refine o_call hS (.inl rfl) rfl (fun wm' hw1 hw2 => wk51  v1.Data  v3 ((hS.sel hw2).ad 4 rfl) hx2) (fun wm' res H hw' hp => ?_)
 obtain ⟨v5, hres, hI⟩ := hp
 replace hres := hres.symm; subst hres
 replace hS : S wm 12 _ H ((10, v5) :: _) ([.own (rI .i64) v5 r2] ++ _) Fr := hS.after rfl hw' hI
 clear hI hw'
 refine o_build hS (.inl rfl) rfl Fb25 rfl (.cons rfl (.cons (cells_one (hS.one (k := 1) rfl (.inr (.inl rfl)))) (.cons (cells_one (hS.one (k := 0) rfl (.inr (.inl rfl)))) .nil))) rfl ?_; clear hS; try clear tm
 intro tm hS
 refine o_st (k := 2) hS (.inl rfl) rfl rfl rfl Fs25 rfl rfl (all_cons rfl (all_cons (hS.one (k := 1) rfl (.inr (.inl rfl))) (all_cons (hS.one (k := 0) rfl (.inr (.inl rfl))) all_nil))) rfl ?_; clear hS; try clear H
 intro H hS
 refine o_nil (hR _ _ ?_)
 clear hR R
 refine wpC.ret ?_
 obtain rfl := Option.some.inj h0
 refine Exists.intro _ (And.intro (rs_cellA (k := 2) hS rfl rfl (.inl rfl) Fu25 rfl Fs25 rfl rs_nil) ?_)
 have hI := hS.inv
 exact ⟨v4, v5, rfl, (((hI.pull 0 rfl).pull 1 rfl).take 2)⟩
theorem wk41 {wm : Nat} {H : AHeap} {Fr : List Ent}  (draws1 : (List Int)) (at1 : Int) (n1 : Int)  (v1 : Value) (hI : Kn wm H [.fz (rI .u64) v1 draws1] Fr) {r : Int} (h0 : M.rand_drawn draws1 at1 n1 = some r) :
  wpF Try.prog ora wm 41 [v1, .int .i64 at1, .int .i64 n1] H (fun res H => res = .int .i64 r ∧ Kn wm H [] Fr) := by
 unfold M.rand_drawn at h0
 refine f_enter (n := 19) Try.func41 rfl (by simp) hI rfl rfl rfl fun tm hS => ?_
 clear hI
 refine c_reg fun R hR => ?_
 refine o_pure hS (.inl rfl) rfl rfl ?_; clear hS; try clear tm
 intro tm hS
 refine o_nil (hR _ _ ?_)
 clear hR R
 refine c_seqS ?_
 refine c_reg fun R hR => ?_
 refine o_pure hS (.inl rfl) rfl rfl ?_; clear hS; try clear tm
 intro tm hS
 refine o_pure hS (.inl rfl) rfl rfl ?_; clear hS; try clear tm
 intro tm hS
 refine o_len (k := 0) (r := (rI .u64)) hS (.inl rfl) rfl rfl rfl (.inl rfl) Fu30 rfl ?_; clear hS; try clear tm
 intro tm hS
 refine o_pure hS (.inl rfl) rfl rfl ?_; clear hS; try clear tm
 intro tm hS
 refine o_nil (hR _ _ ?_)
 clear hR R
 refine c_cond hS rfl (fun hc => ?_) (fun hc => ?_)
 ·replace h0 := iteT hc h0
  refine c_reg fun R hR => ?_
  refine o_pure hS (.inl rfl) rfl rfl ?_; clear hS; try clear tm
  intro tm hS
  refine o_nil (hR _ _ ?_)
  clear hR R
  refine wpC.ret ?_
  obtain rfl := Option.some.inj h0
  refine Exists.intro _ (And.intro (rs_tmp hS rfl rs_nil) ?_)
  have hI := hS.inv
  exact ⟨rfl, (hI.sub sn)⟩
 ·replace h0 := iteF hc h0
  refine wpC.skip ?_
  refine c_reg fun R hR => ?_
  refine o_pure hS (.inl rfl) rfl rfl ?_; clear hS; try clear tm
  intro tm hS
  refine o_pure hS (.inl rfl) rfl rfl ?_; clear hS; try clear tm
  intro tm hS
  obtain ⟨y1, hx1, h0⟩ := bindS h0
  refine o_ixA (k := 0) (r := (rI .u64)) hS (.inl rfl) rfl rfl rfl rfl (.inl rfl) Fu30 Fs44 hx1 ?_; clear hS; try clear tm
  intro tm hS
  refine o_ldF (r := (rI .u64)) (k := 0) hS (.inl rfl) rfl rfl rfl (.inl rfl) hx1 Fu44 rfl (flat_I _) rfl ?_; clear hS; try clear tm
  intro tm hS
  refine o_pure hS (.inl rfl) rfl rfl ?_; clear hS; try clear tm
  intro tm hS
  refine o_pure hS (.inl rfl) rfl rfl ?_; clear hS; try clear tm
  intro tm hS
  obtain ⟨q1, hx2, h0⟩ := bindS h0
  refine o_rem hS (.inl rfl) rfl rfl rfl hx2 ?_; clear hS; try clear tm
  intro tm hS
  refine o_pure hS (.inl rfl) rfl rfl ?_; clear hS; try clear tm
  intro tm hS
  refine o_pure hS (.inl rfl) rfl rfl ?_; clear hS; try clear tm
  intro tm hS
  refine o_nil (hR _ _ ?_)
  clear hR R
  refine wpC.ret ?_
  obtain rfl := Option.some.inj h0
  refine Exists.intro _ (And.intro (rs_tmp hS rfl rs_nil) ?_)
  have hI := hS.inv
  exact ⟨rfl, (hI.sub sn)⟩
theorem wk12 {wm : Nat} {H : AHeap} {Fr : List Ent}  (b1 : Val) (draws1 : (List Int)) (at1 : Int)  (v1 : Value) (v2 : Value) (v3 : Value) (hI : Kn wm H [.fz (rI .i64) v1 b1.Shape, .fz (rI .i64) v2 b1.Data, .fz (rI .u64) v3 draws1] Fr) {r : Val × Int × Int} (h0 : M.rand_Roll b1 draws1 at1 = some r) :
  wpF Try.prog ora wm 12 [.agg #[.bool b1.Char, v1, v2], v3, .int .i64 at1] H (fun res H => ∃ v6 v7, res = .tuple #[.agg #[.bool r.1.Char, v6, v7], .int .i64 r.2.1, .int .i64 r.2.2] ∧ Kn wm H [.own (rI .i64) v6 r.1.Shape, .own (rI .i64) v7 r.1.Data] Fr) := by
 unfold M.rand_Roll at h0
 refine f_enter (n := 61) Try.func12 rfl (by simp) hI rfl rfl rfl fun tm hS => ?_
 clear hI
 refine c_reg fun R hR => ?_
 refine o_box hS (.inl rfl) rfl rfl rfl (all_cons rfl (all_cons (hS.one (k := 0) rfl (.inl rfl)) (all_cons (hS.one (k := 1) rfl (.inl rfl)) all_nil))) ?_; clear hS; try clear tm H
 intro b2 tm H hS
 refine o_alloc hS (.inl rfl) rfl Fz25 (by decide) ?_; clear hS; try clear tm H
 intro b3 tm H hS
 refine o_pure hS (.inl rfl) rfl rfl ?_; clear hS; try clear tm
 intro tm hS
 refine o_pure hS (.inl rfl) rfl rfl ?_; clear hS; try clear tm
 intro tm hS
 refine o_nil (hR _ _ ?_)
 clear hR R
 refine c_seqS ?_
 refine wpC.block ?_
 refine c_reg fun R hR => ?_
 refine o_ldA (k := 1) hS (.inl rfl) rfl rfl rfl (.inl rfl) Fu25 rfl Fs25 rfl ?_; clear hS; try clear tm
 intro tm hS
 obtain ⟨r1, hx1, h0⟩ := bindS h0
 refine o_call hS (.inl rfl) rfl (fun wm' hw1 hw2 => wk30  b1  v1 v2 (((hS.sel hw2).ad 3 rfl).ad 2 rfl) hx1) (fun wm' res H hw' hp => ?_)
 obtain ⟨hres, hI⟩ := hp
 replace hres := hres.symm; subst hres
 replace hS : S wm 61 _ H ((13, .bool r1) :: _) ([] ++ _) Fr := hS.after rfl hw' hI
 clear hI hw'
 refine o_pure hS (.inl rfl) rfl rfl ?_; clear hS; try clear tm
 intro tm hS
 refine o_pure hS (.inl rfl) rfl rfl ?_; clear hS; try clear tm
 intro tm hS
 obtain ⟨c1, hc1⟩ : ∃ x : Bool, x = ((!r1) || (decide (at1 < 0))) := ⟨_, rfl⟩
 refine o_cutN 3 (J := fun tm H => S wm 61 tm H [(18, .bool c1), (1, v3), (2, .int .i64 at1), (3, .pointer (some ⟨b2, 0, none⟩)), (6, .pointer (some ⟨b3, 0, none⟩))] [.box b3 [.bool false, (.slice none 0 0), (.slice none 0 0)], .box b2 [.bool b1.Char, v1, v2], .fz (rI .i64) v1 b1.Shape, .fz (rI .i64) v2 b1.Data, .fz (rI .u64) v3 draws1] Fr) ?_ ?_
 ·rcases Bool.eq_false_or_eq_true (!r1) with hg1 | hg1
  ·refine o_skip hS rfl rfl rfl hg1 ?_; clear hS; try clear tm
   intro tm hS
   refine o_skip hS rfl rfl rfl hg1 ?_; clear hS; try clear tm
   intro tm hS
   refine o_pickT hS (.inl rfl) rfl rfl hg1 rfl ?_; clear hS; try clear tm
   intro tm hS
   have hc1 : c1 = true := hc1.trans (by rw [hg1]; first | rfl | simp)
   subst hc1
   exact o_nil (hS.keep (ka_cons rfl (ka_cons rfl (ka_cons rfl (ka_cons rfl (ka_cons rfl ka_nil))))) (fun hI => (hI.sub (sc (sc (sc (sc (sc sn))))))))
  ·refine o_pure hS (.inr ⟨_, _, _, _, rfl, rfl, rfl, hg1⟩) rfl rfl ?_; clear hS; try clear tm
   intro tm hS
   refine o_pure hS (.inr ⟨_, _, _, _, rfl, rfl, rfl, hg1⟩) rfl rfl ?_; clear hS; try clear tm
   intro tm hS
   refine o_pickF hS (.inl rfl) rfl rfl hg1 rfl ?_; clear hS; try clear tm
   intro tm hS
   have hc1 : c1 = (decide (at1 < 0)) := hc1.trans (by rw [hg1]; first | rfl | simp)
   subst hc1
   exact o_nil (hS.keep (ka_cons rfl (ka_cons rfl (ka_cons rfl (ka_cons rfl (ka_cons rfl ka_nil))))) (fun hI => (hI.sub (sc (sc (sc (sc (sc sn))))))))
 intro tm H hS
 subst hc1
 refine o_pure hS (.inl rfl) rfl rfl ?_; clear hS; try clear tm
 intro tm hS
 obtain ⟨c2, hc2⟩ : ∃ x : Bool, x = (((!r1) || (decide (at1 < 0))) || (decide (at1 > 1099511627776))) := ⟨_, rfl⟩
 refine o_cutN 3 (J := fun tm H => S wm 61 tm H [(22, .bool c2), (1, v3), (2, .int .i64 at1), (3, .pointer (some ⟨b2, 0, none⟩)), (6, .pointer (some ⟨b3, 0, none⟩))] [.box b3 [.bool false, (.slice none 0 0), (.slice none 0 0)], .box b2 [.bool b1.Char, v1, v2], .fz (rI .i64) v1 b1.Shape, .fz (rI .i64) v2 b1.Data, .fz (rI .u64) v3 draws1] Fr) ?_ ?_
 ·rcases Bool.eq_false_or_eq_true ((!r1) || (decide (at1 < 0))) with hg2 | hg2
  ·refine o_skip hS rfl rfl rfl hg2 ?_; clear hS; try clear tm
   intro tm hS
   refine o_skip hS rfl rfl rfl hg2 ?_; clear hS; try clear tm
   intro tm hS
   refine o_pickT hS (.inl rfl) rfl rfl hg2 rfl ?_; clear hS; try clear tm
   intro tm hS
   have hc2 : c2 = true := hc2.trans (by rw [hg2]; first | rfl | simp)
   subst hc2
   exact o_nil (hS.keep (ka_cons rfl (ka_cons rfl (ka_cons rfl (ka_cons rfl (ka_cons rfl ka_nil))))) (fun hI => (hI.sub (sc (sc (sc (sc (sc sn))))))))
  ·refine o_pure hS (.inr ⟨_, _, _, _, rfl, rfl, rfl, hg2⟩) rfl rfl ?_; clear hS; try clear tm
   intro tm hS
   refine o_pure hS (.inr ⟨_, _, _, _, rfl, rfl, rfl, hg2⟩) rfl rfl ?_; clear hS; try clear tm
   intro tm hS
   refine o_pickF hS (.inl rfl) rfl rfl hg2 rfl ?_; clear hS; try clear tm
   intro tm hS
   have hc2 : c2 = (decide (at1 > 1099511627776)) := hc2.trans (by rw [hg2]; first | rfl | simp)
   subst hc2
   exact o_nil (hS.keep (ka_cons rfl (ka_cons rfl (ka_cons rfl (ka_cons rfl (ka_cons rfl ka_nil))))) (fun hI => (hI.sub (sc (sc (sc (sc (sc sn))))))))
 intro tm H hS
 subst hc2
 refine o_pure hS (.inl rfl) rfl rfl ?_; clear hS; try clear tm
 intro tm hS
 refine o_nil (hR _ _ ?_)
 clear hR R
 refine c_cond hS rfl (fun hc => ?_) (fun hc => ?_)
 ·replace h0 := iteT hc h0
  refine c_reg fun R hR => ?_
  refine o_build hS (.inl rfl) rfl Fb25 rfl .nil rfl ?_; clear hS; try clear tm
  intro tm hS
  refine o_pure hS (.inl rfl) rfl rfl ?_; clear hS; try clear tm
  intro tm hS
  refine o_st (k := 0) hS (.inl rfl) rfl rfl rfl Fs25 rfl rfl (all_cons rfl (all_cons rfl (all_cons rfl all_nil))) rfl ?_; clear hS; try clear H
  intro H hS
  refine o_pure hS (.inl rfl) rfl rfl ?_; clear hS; try clear tm
  intro tm hS
  refine o_pure hS (.inl rfl) rfl rfl ?_; clear hS; try clear tm
  intro tm hS
  refine o_nil (hR _ _ ?_)
  clear hR R
  refine wpC.ret ?_
  obtain rfl := Option.some.inj h0
  replace hS := hS.nilOwn (rI .i64)
  replace hS := hS.nilOwn (rI .i64)
  refine Exists.intro _ (And.intro (rs_cellA (k := 2) hS rfl rfl (.inl rfl) Fu25 rfl Fs25 rfl (rs_tmp hS rfl (rs_tmp hS rfl rs_nil))) ?_)
  have hI := hS.inv
  exact ⟨(.slice none 0 0), (.slice none 0 0), rfl, (((hI.pull 0 rfl).pull 1 rfl).take 2)⟩
 ·replace h0 := iteF hc h0
  obtain ⟨t1, h1, h0⟩ := bindS h0
  refine c_seqJ (J := fun tm H => (match (generalizing := false) t1 with | t1 => S wm 61 tm H [(1, v3), (2, .int .i64 at1), (3, .pointer (some ⟨b2, 0, none⟩)), (6, .pointer (some ⟨b3, 0, none⟩)), (25, .bool t1)] [.box b2 [.bool b1.Char, v1, v2], .box b3 [.bool false, (.slice none 0 0), (.slice none 0 0)], .fz (rI .u64) v3 draws1, .fz (rI .i64) v1 b1.Shape, .fz (rI .i64) v2 b1.Data] Fr)) ?_ ?_
  ·refine c_reg fun R hR => ?_
   refine o_pure hS (.inl rfl) rfl rfl ?_; clear hS; try clear tm
   intro tm hS
   refine o_ld1 (k := 1) hS (.inl rfl) rfl rfl rfl (.inl rfl) Fu4 rfl rfl ?_; clear hS; try clear tm
   intro tm hS
   refine o_pure hS (.inl rfl) rfl rfl ?_; clear hS; try clear tm
   intro tm hS
   refine o_nil (hR _ _ ?_)
   clear hR R
   refine c_cond hS rfl (fun hc => ?_) (fun hc => ?_)
   ·replace h1 := iteT hc h1
    refine wpC.skip ?_
    obtain rfl := Option.some.inj h1
    change S wm 61 _ _ _ _ Fr; exact hS.keep (ka_cons rfl (ka_cons rfl (ka_cons rfl (ka_cons rfl (ka_cons rfl ka_nil))))) (fun hI => ((((((hI.pull 3 rfl).pull 3 rfl).pull 4 rfl).pull 3 rfl).pull 4 rfl).take 5))
   ·replace h1 := iteF hc h1
    refine c_reg1 fun R hR => ?_
    refine o_pure hS (.inl rfl) rfl rfl ?_; clear hS; try clear tm
    intro tm hS
    refine o_ld1 (k := 1) hS (.inl rfl) rfl rfl rfl (.inl rfl) Fu22 rfl rfl ?_; clear hS; try clear tm
    intro tm hS
    obtain ⟨r2, hx2, h1⟩ := bindS h1
    refine o_call hS (.inl rfl) rfl (fun wm' hw1 hw2 => wk39  b1.Data (fun x0 => M.rand_Roll_1 x0) 40 #[] [] (by simp [Ent.blk]) (fun x0 hI _ h0 => wk40  x0   hI h0) v2 ((hS.sel hw2).ad 3 rfl) hx2) (fun wm' res H hw' hp => ?_)
    obtain ⟨hres, hI⟩ := hp
    replace hres := hres.symm; subst hres
    replace hS : S wm 61 _ H ((30, .bool r2) :: _) ([] ++ _) Fr := hS.after rfl hw' hI
    clear hI hw'
    refine o_pure hS (.inl rfl) rfl rfl ?_; clear hS; try clear tm
    intro tm hS
    refine o_nil (hR _ _ ?_)
    clear hR R
    obtain rfl := Option.some.inj h1
    change S wm 61 _ _ _ _ Fr; exact hS.keep (ka_cons rfl (ka_cons rfl (ka_cons rfl (ka_cons rfl (ka_cons rfl ka_nil))))) (fun hI => ((((((hI.pull 3 rfl).pull 3 rfl).pull 4 rfl).pull 3 rfl).pull 4 rfl).take 5))
  intro tm H hS
  change S wm 61 tm H [(1, v3), (2, .int .i64 at1), (3, .pointer (some ⟨b2, 0, none⟩)), (6, .pointer (some ⟨b3, 0, none⟩)), (25, .bool t1)] [.box b2 [.bool b1.Char, v1, v2], .box b3 [.bool false, (.slice none 0 0), (.slice none 0 0)], .fz (rI .u64) v3 draws1, .fz (rI .i64) v1 b1.Shape, .fz (rI .i64) v2 b1.Data] Fr at hS
  refine c_cond hS rfl (fun hc => ?_) (fun hc => ?_)
  ·replace h0 := iteT hc h0
   refine c_reg fun R hR => ?_
   refine o_build hS (.inl rfl) rfl Fb25 rfl .nil rfl ?_; clear hS; try clear tm
   intro tm hS
   refine o_pure hS (.inl rfl) rfl rfl ?_; clear hS; try clear tm
   intro tm hS
   refine o_st (k := 1) hS (.inl rfl) rfl rfl rfl Fs25 rfl rfl (all_cons rfl (all_cons rfl (all_cons rfl all_nil))) rfl ?_; clear hS; try clear H
   intro H hS
   refine o_pure hS (.inl rfl) rfl rfl ?_; clear hS; try clear tm
   intro tm hS
   refine o_pure hS (.inl rfl) rfl rfl ?_; clear hS; try clear tm
   intro tm hS
   refine o_nil (hR _ _ ?_)
   clear hR R
   refine wpC.ret ?_
   obtain rfl := Option.some.inj h0
   replace hS := hS.nilOwn (rI .i64)
   replace hS := hS.nilOwn (rI .i64)
   refine Exists.intro _ (And.intro (rs_cellA (k := 3) hS rfl rfl (.inl rfl) Fu25 rfl Fs25 rfl (rs_tmp hS rfl (rs_tmp hS rfl rs_nil))) ?_)
   have hI := hS.inv
   exact ⟨(.slice none 0 0), (.slice none 0 0), rfl, (((hI.pull 0 rfl).pull 1 rfl).take 2)⟩
  ·replace h0 := iteF hc h0
   refine wpC.skip ?_
   refine c_reg fun R hR => ?_
   refine o_ldA (k := 0) hS (.inl rfl) rfl rfl rfl (.inl rfl) Fu25 rfl Fs25 rfl ?_; clear hS; try clear tm
   intro tm hS
   obtain ⟨r3, hx3, h0⟩ := bindS h0
   refine o_call hS (.inl rfl) rfl (fun wm' hw1 hw2 => wk38  b1  v1 v2 (((hS.sel hw2).ad 4 rfl).ad 3 rfl) hx3) (fun wm' res H hw' hp => ?_)
   obtain ⟨v4, v5, hres, hI⟩ := hp
   replace hres := hres.symm; subst hres
   replace hS : S wm 61 _ H ((34, .agg #[.bool r3.Char, v4, v5]) :: _) ([.own (rI .i64) v4 r3.Shape, .own (rI .i64) v5 r3.Data] ++ _) Fr := hS.after rfl hw' hI
   clear hI hw'
   refine o_st (k := 3) hS (.inl rfl) rfl rfl rfl Fs25 rfl rfl (all_cons rfl (all_cons (hS.one (k := 0) rfl (.inr (.inl rfl))) (all_cons (hS.one (k := 1) rfl (.inr (.inl rfl))) all_nil))) rfl ?_; clear hS; try clear H
   intro H hS
   refine o_nil (hR _ _ ?_)
   clear hR R
   refine c_seqS ?_
   refine c_reg fun R hR => ?_
   refine o_pure hS (.inl rfl) rfl rfl ?_; clear hS; try clear tm
   intro tm hS
   refine o_ld1 (k := 3) hS (.inl rfl) rfl rfl rfl (.inl rfl) Fu22 rfl rfl ?_; clear hS; try clear tm
   intro tm hS
   refine o_len (k := 1) (r := (rI .i64)) hS (.inl rfl) rfl rfl rfl (.inr (.inl rfl)) Fu22 rfl ?_; clear hS; try clear tm
   intro tm hS
   refine o_pure hS (.inl rfl) rfl rfl ?_; clear hS; try clear tm
   intro tm hS
   refine o_nil (hR _ _ ?_)
   clear hR R
   obtain ⟨k1, hw1, h0⟩ := bindS h0
   refine wpC.block ?_
   refine c_loop (I := fun (s : Int × (List Int)) tm H => match (generalizing := false) s with | (t2, l1) => S wm 61 tm H [(1, v3), (2, .int .i64 at1), (6, .pointer (some ⟨b3, 0, none⟩)), (36, v5), (37, .int .i64 (r3.Data.length : Int)), (38, .int .i64 t2)] [.box b3 [.bool r3.Char, v4, v5], .fz (rI .u64) v3 draws1, .own (rI .i64) v4 r3.Shape, .own (rI .i64) v5 l1] Fr) hw1 (by change S wm 61 _ _ _ _ Fr; exact hS.keep (ka_cons rfl (ka_cons rfl (ka_cons rfl (ka_cons rfl (ka_cons rfl (ka_cons rfl ka_nil)))))) (fun hI => (((((hI.pull 1 rfl).pull 1 rfl).pull 4 rfl).pull 4 rfl).take 4))) ?_
   clear hS
   intro s1 tm H c3 hS h2 hq2
   obtain ⟨t2, l1⟩ := s1
   change S wm 61 tm H [(1, v3), (2, .int .i64 at1), (6, .pointer (some ⟨b3, 0, none⟩)), (36, v5), (37, .int .i64 (r3.Data.length : Int)), (38, .int .i64 t2)] [.box b3 [.bool r3.Char, v4, v5], .fz (rI .u64) v3 draws1, .own (rI .i64) v4 r3.Shape, .own (rI .i64) v5 l1] Fr at hS
   refine c_reg fun R hR => ?_
   refine o_pure hS (.inl rfl) rfl rfl ?_; clear hS; try clear tm
   intro tm hS
   refine o_nil (hR _ _ ?_)
   clear hR R
   refine c_seqS ?_
   refine c_cond hS rfl (fun hc => ?_) (fun hc => ?_)
   ·replace h2 := iteT hc h2
    refine wpC.skip ?_
    refine c_seqS ?_
    refine wpC.block ?_
    refine c_reg fun R hR => ?_
    refine o_pure hS (.inl rfl) rfl rfl ?_; clear hS; try clear tm
    intro tm hS
    obtain ⟨y1, hx4, h2⟩ := bindS h2
    refine o_ixA (k := 3) (r := (rI .i64)) hS (.inl rfl) rfl rfl rfl rfl (.inr (.inl rfl)) Fu22 Fs2 hx4 ?_; clear hS; try clear tm
    intro tm hS
    refine o_ldF (r := (rI .i64)) (k := 3) hS (.inl rfl) rfl rfl rfl (.inr (.inl rfl)) hx4 Fu2 rfl (flat_I _) rfl ?_; clear hS; try clear tm
    intro tm hS
    refine o_pure hS (.inl rfl) rfl rfl ?_; clear hS; try clear tm
    intro tm hS
    refine o_pure hS (.inl rfl) rfl rfl ?_; clear hS; try clear tm
    intro tm hS
    refine o_nil (hR _ _ ?_)
    clear hR R
    refine c_reg1 fun R hR => ?_
    refine o_pure hS (.inl rfl) rfl rfl ?_; clear hS; try clear tm
    intro tm hS
    refine o_ld1 (k := 0) hS (.inl rfl) rfl rfl rfl (.inl rfl) Fu22 rfl rfl ?_; clear hS; try clear tm
    intro tm hS
    refine o_pure hS (.inl rfl) rfl rfl ?_; clear hS; try clear tm
    intro tm hS
    refine o_pure hS (.inl rfl) rfl rfl ?_; clear hS; try clear tm
    intro tm hS
    refine o_pure hS (.inl rfl) rfl rfl ?_; clear hS; try clear tm
    intro tm hS
    refine o_pure hS (.inl rfl) rfl rfl ?_; clear hS; try clear tm
    intro tm hS
    refine o_pure hS (.inl rfl) rfl rfl ?_; clear hS; try clear tm
    intro tm hS
    refine o_pure hS (.inl rfl) rfl rfl ?_; clear hS; try clear tm
    intro tm hS
    obtain ⟨r4, hx5, h2⟩ := bindS h2
    refine o_call hS (.inl rfl) rfl (fun wm' hw1 hw2 => wk41  draws1 (IntKind.i64.wrap (at1 + t2)) y1  v3 ((hS.sel hw2).ad 1 rfl) hx5) (fun wm' res H hw' hp => ?_)
    obtain ⟨hres, hI⟩ := hp
    replace hres := hres.symm; subst hres
    replace hS : S wm 61 _ H ((51, .int .i64 r4) :: _) ([] ++ _) Fr := hS.after rfl hw' hI
    clear hI hw'
    refine o_pure hS (.inl rfl) rfl rfl ?_; clear hS; try clear tm
    intro tm hS
    obtain ⟨y2, hx6, h2⟩ := bindS h2
    refine o_ixA (k := 3) (r := (rI .i64)) hS (.inl rfl) rfl rfl rfl rfl (.inr (.inl rfl)) Fu22 Fs2 hx6 ?_; clear hS; try clear tm
    intro tm hS
    obtain ⟨l2, hx7, h2⟩ := bindS h2
    refine o_stE (k := 3) (r := (rI .i64)) hS (.inl rfl) rfl rfl rfl Fs2 rfl rfl (rd_flat fun _ => rfl) hx7 ?_; clear hS; try clear H
    intro H hS
    refine o_nil (hR _ _ ?_)
    clear hR R
    refine c_reg1 fun R hR => ?_
    refine o_pure hS (.inl rfl) rfl rfl ?_; clear hS; try clear tm
    intro tm hS
    refine o_pure hS (.inl rfl) rfl rfl ?_; clear hS; try clear tm
    intro tm hS
    refine o_nil (hR _ _ ?_)
    clear hR R
    obtain rfl := Option.some.inj h2
    refine ⟨_, rfl, ?_⟩
    change S wm 61 _ _ _ _ Fr; exact hS.keep (ka_cons rfl (ka_cons rfl (ka_cons rfl (ka_cons rfl (ka_cons rfl (ka_cons rfl ka_nil)))))) (fun hI => (hI.sub (sc (sc (sc (sc sn))))))
   ·replace h2 := iteF hc h2
    refine wpC.exit ?_
    obtain rfl := Option.some.inj h2
    obtain rfl := hq2 _ rfl
    refine And.intro rfl (blk_eq ?_)
    replace h0 := joinN h0
    refine c_reg fun R hR => ?_
    refine o_ldA (k := 0) hS (.inl rfl) rfl rfl rfl (.inl rfl) Fu25 rfl Fs25 rfl ?_; clear hS; try clear tm
    intro tm hS
    refine o_pure hS (.inl rfl) rfl rfl ?_; clear hS; try clear tm
    intro tm hS
    refine o_pure hS (.inl rfl) rfl rfl ?_; clear hS; try clear tm
    intro tm hS
    refine o_ld1 (k := 0) hS (.inl rfl) rfl rfl rfl (.inl rfl) Fu22 rfl rfl ?_; clear hS; try clear tm
    intro tm hS
    refine o_len (k := 3) (r := (rI .i64)) hS (.inl rfl) rfl rfl rfl (.inr (.inl rfl)) Fu22 rfl ?_; clear hS; try clear tm
    intro tm hS
    refine o_pure hS (.inl rfl) rfl rfl ?_; clear hS; try clear tm
    intro tm hS
    refine o_st (k := 0) hS (.inl rfl) rfl rfl rfl Fs25 rfl rfl (all_cons rfl (all_cons (hS.one (k := 2) rfl (.inr (.inl rfl))) (all_cons (hS.one (k := 3) rfl (.inr (.inl rfl))) all_nil))) rfl ?_; clear hS; try clear H
    intro H hS
    refine o_pure hS (.inl rfl) rfl rfl ?_; clear hS; try clear tm
    intro tm hS
    refine o_pure hS (.inl rfl) rfl rfl ?_; clear hS; try clear tm
    intro tm hS
    refine o_nil (hR _ _ ?_)
    clear hR R
    refine wpC.ret ?_
    obtain rfl := Option.some.inj h0
    refine Exists.intro _ (And.intro (rs_cellA (k := 0) hS rfl rfl (.inl rfl) Fu25 rfl Fs25 rfl (rs_tmp hS rfl (rs_tmp hS rfl rs_nil))) ?_)
    have hI := hS.inv
    exact ⟨v4, v5, rfl, (hI.sub (sd (sd (sc (sc sn)))))⟩
theorem wk13 {wm : Nat} {H : AHeap} {Fr : List Ent}  (n1 : Int)   (hI : Kn wm H [] Fr) {r : Val} (h0 : M.anamnesislaw13_one n1 = some r) :
  wpF Try.prog ora wm 13 [.int .i64 n1] H (fun res H => ∃ v2 v3, res = .agg #[.bool r.Char, v2, v3] ∧ Kn wm H [.own (rI .i64) v2 r.Shape, .own (rI .i64) v3 r.Data] Fr) := by
 unfold M.anamnesislaw13_one at h0
 refine f_enter (n := 6) Try.func13 rfl (by simp) hI rfl rfl rfl fun tm hS => ?_
 clear hI
 refine c_reg fun R hR => ?_
 refine o_alloc hS (.inl rfl) rfl Fz25 (by decide) ?_; clear hS; try clear tm H
 intro b1 tm H hS
 refine o_nil (hR _ _ ?_)
 clear hR R
 refine c_reg fun R hR => ?_
 refine o_pure hS (.inl rfl) rfl rfl ?_; clear hS; try clear tm
 intro tm hS
 refine o_lit (r := (rI .i64)) (l := [n1]) hS (.inl rfl) rfl Fl22 rfl rfl rfl (.cons rfl .nil) rfl rfl (ri_1 (rd_flat fun _ => rfl) ri_nil) rfl ?_; clear hS; try clear tm H
 intro v1 tm H hS
 refine o_build hS (.inl rfl) rfl Fb25 rfl (.cons (cells_one (hS.one (k := 0) rfl (.inr (.inr rfl)))) .nil) rfl ?_; clear hS; try clear tm
 intro tm hS
 refine o_st (k := 1) hS (.inl rfl) rfl rfl rfl Fs25 rfl rfl (all_cons rfl (all_cons rfl (all_cons (hS.one (k := 0) rfl (.inr (.inr rfl))) all_nil))) rfl ?_; clear hS; try clear H
 intro H hS
 refine o_nil (hR _ _ ?_)
 clear hR R
 refine wpC.ret ?_
 obtain rfl := Option.some.inj h0
 replace hS := hS.nilOwn (rI .i64)
 replace hS := hS.litOwn (k := 1) rfl
 refine Exists.intro _ (And.intro (rs_cellA (k := 2) hS rfl rfl (.inl rfl) Fu25 rfl Fs25 rfl rs_nil) ?_)
 have hI := hS.inv
 exact ⟨(.slice none 0 0), v1, rfl, (hI.sub (sc (sc sn)))⟩
theorem wk24 {wm : Nat} {H : AHeap} {Fr : List Ent}  (a1 : Val) (b1 : Val)  (v1 : Value) (v2 : Value) (v3 : Value) (v4 : Value) (hI : Kn wm H [.fz (rI .i64) v1 a1.Shape, .fz (rI .i64) v2 a1.Data, .fz (rI .i64) v3 b1.Shape, .fz (rI .i64) v4 b1.Data] Fr) {r : Bool} (h0 : M.anamnesisref06_Same a1 b1 = some r) :
  wpF Try.prog ora wm 24 [.agg #[.bool a1.Char, v1, v2], .agg #[.bool b1.Char, v3, v4]] H (fun res H => res = .bool r ∧ Kn wm H [] Fr) := by
 unfold M.anamnesisref06_Same at h0
 refine f_enter (n := 66) Try.func24 rfl (by simp) hI rfl rfl rfl fun tm hS => ?_
 clear hI
 refine c_reg fun R hR => ?_
 refine o_box hS (.inl rfl) rfl rfl rfl (all_cons rfl (all_cons (hS.one (k := 0) rfl (.inl rfl)) (all_cons (hS.one (k := 1) rfl (.inl rfl)) all_nil))) ?_; clear hS; try clear tm H
 intro b2 tm H hS
 refine o_box hS (.inl rfl) rfl rfl rfl (all_cons rfl (all_cons (hS.one (k := 3) rfl (.inl rfl)) (all_cons (hS.one (k := 4) rfl (.inl rfl)) all_nil))) ?_; clear hS; try clear tm H
 intro b3 tm H hS
 refine o_pure hS (.inl rfl) rfl rfl ?_; clear hS; try clear tm
 intro tm hS
 refine o_nil (hR _ _ ?_)
 clear hR R
 refine c_seqS ?_
 refine c_reg fun R hR => ?_
 refine o_pure hS (.inl rfl) rfl rfl ?_; clear hS; try clear tm
 intro tm hS
 refine o_ld1 (k := 1) hS (.inl rfl) rfl rfl rfl (.inl rfl) Fu4 rfl rfl ?_; clear hS; try clear tm
 intro tm hS
 refine o_pure hS (.inl rfl) rfl rfl ?_; clear hS; try clear tm
 intro tm hS
 refine o_ld1 (k := 0) hS (.inl rfl) rfl rfl rfl (.inl rfl) Fu4 rfl rfl ?_; clear hS; try clear tm
 intro tm hS
 refine o_pure hS (.inl rfl) rfl rfl ?_; clear hS; try clear tm
 intro tm hS
 refine o_pure hS (.inl rfl) rfl rfl ?_; clear hS; try clear tm
 intro tm hS
 obtain ⟨c1, hc1⟩ : ∃ x : Bool, x = ((!(a1.Char == b1.Char)) || ((a1.Shape.length : Int) != (b1.Shape.length : Int))) := ⟨_, rfl⟩
 refine o_cutN 8 (J := fun tm H => S wm 66 tm H [(20, .bool c1), (2, .pointer (some ⟨b2, 0, none⟩)), (3, .pointer (some ⟨b3, 0, none⟩))] [.box b3 [.bool b1.Char, v3, v4], .box b2 [.bool a1.Char, v1, v2], .fz (rI .i64) v1 a1.Shape, .fz (rI .i64) v2 a1.Data, .fz (rI .i64) v3 b1.Shape, .fz (rI .i64) v4 b1.Data] Fr) ?_ ?_
 ·rcases Bool.eq_false_or_eq_true (!(a1.Char == b1.Char)) with hg1 | hg1
  ·refine o_skip hS rfl rfl rfl hg1 ?_; clear hS; try clear tm
   intro tm hS
   refine o_skip hS rfl rfl rfl hg1 ?_; clear hS; try clear tm
   intro tm hS
   refine o_skip hS rfl rfl rfl hg1 ?_; clear hS; try clear tm
   intro tm hS
   refine o_skip hS rfl rfl rfl hg1 ?_; clear hS; try clear tm
   intro tm hS
   refine o_skip hS rfl rfl rfl hg1 ?_; clear hS; try clear tm
   intro tm hS
   refine o_skip hS rfl rfl rfl hg1 ?_; clear hS; try clear tm
   intro tm hS
   refine o_skip hS rfl rfl rfl hg1 ?_; clear hS; try clear tm
   intro tm hS
   refine o_pickT hS (.inl rfl) rfl rfl hg1 rfl ?_; clear hS; try clear tm
   intro tm hS
   have hc1 : c1 = true := hc1.trans (by rw [hg1]; first | rfl | simp)
   subst hc1
   exact o_nil (hS.keep (ka_cons rfl (ka_cons rfl (ka_cons rfl ka_nil))) (fun hI => (hI.sub (sc (sc (sc (sc (sc (sc sn)))))))))
  ·refine o_pure hS (.inr ⟨_, _, _, _, rfl, rfl, rfl, hg1⟩) rfl rfl ?_; clear hS; try clear tm
   intro tm hS
   refine o_ld1 (k := 1) hS (.inr ⟨_, _, _, _, rfl, rfl, rfl, hg1⟩) rfl rfl rfl (.inl rfl) Fu23 rfl rfl ?_; clear hS; try clear tm
   intro tm hS
   refine o_len (k := 2) (r := (rI .i64)) hS (.inr ⟨_, _, _, _, rfl, rfl, rfl, hg1⟩) rfl rfl rfl (.inl rfl) Fu23 rfl ?_; clear hS; try clear tm
   intro tm hS
   refine o_pure hS (.inr ⟨_, _, _, _, rfl, rfl, rfl, hg1⟩) rfl rfl ?_; clear hS; try clear tm
   intro tm hS
   refine o_ld1 (k := 0) hS (.inr ⟨_, _, _, _, rfl, rfl, rfl, hg1⟩) rfl rfl rfl (.inl rfl) Fu23 rfl rfl ?_; clear hS; try clear tm
   intro tm hS
   refine o_len (k := 4) (r := (rI .i64)) hS (.inr ⟨_, _, _, _, rfl, rfl, rfl, hg1⟩) rfl rfl rfl (.inl rfl) Fu23 rfl ?_; clear hS; try clear tm
   intro tm hS
   refine o_pure hS (.inr ⟨_, _, _, _, rfl, rfl, rfl, hg1⟩) rfl rfl ?_; clear hS; try clear tm
   intro tm hS
   refine o_pickF hS (.inl rfl) rfl rfl hg1 rfl ?_; clear hS; try clear tm
   intro tm hS
   have hc1 : c1 = ((a1.Shape.length : Int) != (b1.Shape.length : Int)) := hc1.trans (by rw [hg1]; first | rfl | simp)
   subst hc1
   exact o_nil (hS.keep (ka_cons rfl (ka_cons rfl (ka_cons rfl ka_nil))) (fun hI => (hI.sub (sc (sc (sc (sc (sc (sc sn)))))))))
 intro tm H hS
 subst hc1
 refine o_pure hS (.inl rfl) rfl rfl ?_; clear hS; try clear tm
 intro tm hS
 obtain ⟨c2, hc2⟩ : ∃ x : Bool, x = (((!(a1.Char == b1.Char)) || ((a1.Shape.length : Int) != (b1.Shape.length : Int))) || ((a1.Data.length : Int) != (b1.Data.length : Int))) := ⟨_, rfl⟩
 refine o_cutN 8 (J := fun tm H => S wm 66 tm H [(29, .bool c2), (2, .pointer (some ⟨b2, 0, none⟩)), (3, .pointer (some ⟨b3, 0, none⟩))] [.box b3 [.bool b1.Char, v3, v4], .box b2 [.bool a1.Char, v1, v2], .fz (rI .i64) v1 a1.Shape, .fz (rI .i64) v2 a1.Data, .fz (rI .i64) v3 b1.Shape, .fz (rI .i64) v4 b1.Data] Fr) ?_ ?_
 ·rcases Bool.eq_false_or_eq_true ((!(a1.Char == b1.Char)) || ((a1.Shape.length : Int) != (b1.Shape.length : Int))) with hg2 | hg2
  ·refine o_skip hS rfl rfl rfl hg2 ?_; clear hS; try clear tm
   intro tm hS
   refine o_skip hS rfl rfl rfl hg2 ?_; clear hS; try clear tm
   intro tm hS
   refine o_skip hS rfl rfl rfl hg2 ?_; clear hS; try clear tm
   intro tm hS
   refine o_skip hS rfl rfl rfl hg2 ?_; clear hS; try clear tm
   intro tm hS
   refine o_skip hS rfl rfl rfl hg2 ?_; clear hS; try clear tm
   intro tm hS
   refine o_skip hS rfl rfl rfl hg2 ?_; clear hS; try clear tm
   intro tm hS
   refine o_skip hS rfl rfl rfl hg2 ?_; clear hS; try clear tm
   intro tm hS
   refine o_pickT hS (.inl rfl) rfl rfl hg2 rfl ?_; clear hS; try clear tm
   intro tm hS
   have hc2 : c2 = true := hc2.trans (by rw [hg2]; first | rfl | simp)
   subst hc2
   exact o_nil (hS.keep (ka_cons rfl (ka_cons rfl (ka_cons rfl ka_nil))) (fun hI => (hI.sub (sc (sc (sc (sc (sc (sc sn)))))))))
  ·refine o_pure hS (.inr ⟨_, _, _, _, rfl, rfl, rfl, hg2⟩) rfl rfl ?_; clear hS; try clear tm
   intro tm hS
   refine o_ld1 (k := 1) hS (.inr ⟨_, _, _, _, rfl, rfl, rfl, hg2⟩) rfl rfl rfl (.inl rfl) Fu22 rfl rfl ?_; clear hS; try clear tm
   intro tm hS
   refine o_len (k := 3) (r := (rI .i64)) hS (.inr ⟨_, _, _, _, rfl, rfl, rfl, hg2⟩) rfl rfl rfl (.inl rfl) Fu22 rfl ?_; clear hS; try clear tm
   intro tm hS
   refine o_pure hS (.inr ⟨_, _, _, _, rfl, rfl, rfl, hg2⟩) rfl rfl ?_; clear hS; try clear tm
   intro tm hS
   refine o_ld1 (k := 0) hS (.inr ⟨_, _, _, _, rfl, rfl, rfl, hg2⟩) rfl rfl rfl (.inl rfl) Fu22 rfl rfl ?_; clear hS; try clear tm
   intro tm hS
   refine o_len (k := 5) (r := (rI .i64)) hS (.inr ⟨_, _, _, _, rfl, rfl, rfl, hg2⟩) rfl rfl rfl (.inl rfl) Fu22 rfl ?_; clear hS; try clear tm
   intro tm hS
   refine o_pure hS (.inr ⟨_, _, _, _, rfl, rfl, rfl, hg2⟩) rfl rfl ?_; clear hS; try clear tm
   intro tm hS
   refine o_pickF hS (.inl rfl) rfl rfl hg2 rfl ?_; clear hS; try clear tm
   intro tm hS
   have hc2 : c2 = ((a1.Data.length : Int) != (b1.Data.length : Int)) := hc2.trans (by rw [hg2]; first | rfl | simp)
   subst hc2
   exact o_nil (hS.keep (ka_cons rfl (ka_cons rfl (ka_cons rfl ka_nil))) (fun hI => (hI.sub (sc (sc (sc (sc (sc (sc sn)))))))))
 intro tm H hS
 subst hc2
 refine o_nil (hR _ _ ?_)
 clear hR R
 refine c_cond hS rfl (fun hc => ?_) (fun hc => ?_)
 ·replace h0 := iteT hc h0
  refine c_reg fun R hR => ?_
  refine o_pure hS (.inl rfl) rfl rfl ?_; clear hS; try clear tm
  intro tm hS
  refine o_nil (hR _ _ ?_)
  clear hR R
  refine wpC.ret ?_
  obtain rfl := Option.some.inj h0
  refine Exists.intro _ (And.intro (rs_tmp hS rfl rs_nil) ?_)
  have hI := hS.inv
  exact ⟨rfl, (hI.sub sn)⟩
 ·replace h0 := iteF hc h0
  refine wpC.skip ?_
  refine c_seqS ?_
  refine c_reg fun R hR => ?_
  refine o_pure hS (.inl rfl) rfl rfl ?_; clear hS; try clear tm
  intro tm hS
  refine o_nil (hR _ _ ?_)
  clear hR R
  obtain ⟨k1, hw1, h0⟩ := bindS h0
  refine wpC.block ?_
  refine c_loop (I := fun (s : Int) tm H => match (generalizing := false) s with | i1 => S wm 66 tm H [(2, .pointer (some ⟨b2, 0, none⟩)), (3, .pointer (some ⟨b3, 0, none⟩)), (5, .int .i64 i1)] [.box b2 [.bool a1.Char, v1, v2], .box b3 [.bool b1.Char, v3, v4], .fz (rI .i64) v1 a1.Shape, .fz (rI .i64) v2 a1.Data, .fz (rI .i64) v3 b1.Shape, .fz (rI .i64) v4 b1.Data] Fr) hw1 (by change S wm 66 _ _ _ _ Fr; exact hS.keep (ka_cons rfl (ka_cons rfl (ka_cons rfl ka_nil))) (fun hI => (((((((hI.pull 5 rfl).pull 5 rfl).pull 5 rfl).pull 5 rfl).pull 4 rfl).pull 5 rfl).take 6))) ?_
  clear hS
  intro i1 tm H c3 hS h1 hq1
  change S wm 66 tm H [(2, .pointer (some ⟨b2, 0, none⟩)), (3, .pointer (some ⟨b3, 0, none⟩)), (5, .int .i64 i1)] [.box b2 [.bool a1.Char, v1, v2], .box b3 [.bool b1.Char, v3, v4], .fz (rI .i64) v1 a1.Shape, .fz (rI .i64) v2 a1.Data, .fz (rI .i64) v3 b1.Shape, .fz (rI .i64) v4 b1.Data] Fr at hS
  refine c_seqS ?_
  refine c_reg fun R hR => ?_
  refine o_pure hS (.inl rfl) rfl rfl ?_; clear hS; try clear tm
  intro tm hS
  refine o_pure hS (.inl rfl) rfl rfl ?_; clear hS; try clear tm
  intro tm hS
  refine o_ld1 (k := 0) hS (.inl rfl) rfl rfl rfl (.inl rfl) Fu23 rfl rfl ?_; clear hS; try clear tm
  intro tm hS
  refine o_len (k := 2) (r := (rI .i64)) hS (.inl rfl) rfl rfl rfl (.inl rfl) Fu23 rfl ?_; clear hS; try clear tm
  intro tm hS
  refine o_pure hS (.inl rfl) rfl rfl ?_; clear hS; try clear tm
  intro tm hS
  refine o_nil (hR _ _ ?_)
  clear hR R
  refine c_cond hS rfl (fun hc => ?_) (fun hc => ?_)
  ·replace h1 := iteT hc h1
   refine wpC.skip ?_
   refine c_seqS ?_
   refine wpC.block ?_
   refine c_reg fun R hR => ?_
   refine o_pure hS (.inl rfl) rfl rfl ?_; clear hS; try clear tm
   intro tm hS
   refine o_ld1 (k := 0) hS (.inl rfl) rfl rfl rfl (.inl rfl) Fu23 rfl rfl ?_; clear hS; try clear tm
   intro tm hS
   refine o_pure hS (.inl rfl) rfl rfl ?_; clear hS; try clear tm
   intro tm hS
   obtain ⟨y1, hx1, h1⟩ := bindS h1
   refine o_ixA (k := 2) (r := (rI .i64)) hS (.inl rfl) rfl rfl rfl rfl (.inl rfl) Fu23 Fs3 hx1 ?_; clear hS; try clear tm
   intro tm hS
   refine o_ldF (r := (rI .i64)) (k := 2) hS (.inl rfl) rfl rfl rfl (.inl rfl) hx1 Fu3 rfl (flat_I _) rfl ?_; clear hS; try clear tm
   intro tm hS
   refine o_pure hS (.inl rfl) rfl rfl ?_; clear hS; try clear tm
   intro tm hS
   refine o_ld1 (k := 1) hS (.inl rfl) rfl rfl rfl (.inl rfl) Fu23 rfl rfl ?_; clear hS; try clear tm
   intro tm hS
   refine o_pure hS (.inl rfl) rfl rfl ?_; clear hS; try clear tm
   intro tm hS
   obtain ⟨y2, hx2, h1⟩ := bindS h1
   refine o_ixA (k := 4) (r := (rI .i64)) hS (.inl rfl) rfl rfl rfl rfl (.inl rfl) Fu23 Fs3 hx2 ?_; clear hS; try clear tm
   intro tm hS
   refine o_ldF (r := (rI .i64)) (k := 4) hS (.inl rfl) rfl rfl rfl (.inl rfl) hx2 Fu3 rfl (flat_I _) rfl ?_; clear hS; try clear tm
   intro tm hS
   refine o_pure hS (.inl rfl) rfl rfl ?_; clear hS; try clear tm
   intro tm hS
   refine o_nil (hR _ _ ?_)
   clear hR R
   refine c_cond hS rfl (fun hc => ?_) (fun hc => ?_)
   ·replace h1 := iteT hc h1
    refine c_reg fun R hR => ?_
    refine o_pure hS (.inl rfl) rfl rfl ?_; clear hS; try clear tm
    intro tm hS
    refine o_nil (hR _ _ ?_)
    clear hR R
    refine wpC.ret ?_
    obtain rfl := Option.some.inj h1
    obtain rfl := hq1 _ rfl
    refine And.intro rfl ?_
    obtain rfl := leave h0
    refine Exists.intro _ (And.intro (rs_tmp hS rfl rs_nil) ?_)
    have hI := hS.inv
    exact ⟨rfl, (hI.sub sn)⟩
   ·replace h1 := iteF hc h1
    refine wpC.skip ?_
    refine c_reg1 fun R hR => ?_
    refine o_pure hS (.inl rfl) rfl rfl ?_; clear hS; try clear tm
    intro tm hS
    refine o_pure hS (.inl rfl) rfl rfl ?_; clear hS; try clear tm
    intro tm hS
    refine o_pure hS (.inl rfl) rfl rfl ?_; clear hS; try clear tm
    intro tm hS
    refine o_nil (hR _ _ ?_)
    clear hR R
    obtain rfl := Option.some.inj h1
    refine ⟨_, rfl, ?_⟩
    change S wm 66 _ _ _ _ Fr; exact hS.keep (ka_cons rfl (ka_cons rfl (ka_cons rfl ka_nil))) (fun hI => (hI.sub (sc (sc (sc (sc (sc (sc sn))))))))
  ·replace h1 := iteF hc h1
   refine wpC.exit ?_
   obtain rfl := Option.some.inj h1
   obtain rfl := hq1 _ rfl
   refine And.intro rfl (blk_eq ?_)
   replace h0 := joinN h0
   refine c_seqS ?_
   refine c_reg fun R hR => ?_
   refine o_pure hS (.inl rfl) rfl rfl ?_; clear hS; try clear tm
   intro tm hS
   refine o_nil (hR _ _ ?_)
   clear hR R
   obtain ⟨k2, hw2, h0⟩ := bindS h0
   refine wpC.block ?_
   refine c_loop (I := fun (s : Int) tm H => match (generalizing := false) s with | i2 => S wm 66 tm H [(2, .pointer (some ⟨b2, 0, none⟩)), (3, .pointer (some ⟨b3, 0, none⟩)), (6, .int .i64 i2)] [.box b2 [.bool a1.Char, v1, v2], .box b3 [.bool b1.Char, v3, v4], .fz (rI .i64) v1 a1.Shape, .fz (rI .i64) v2 a1.Data, .fz (rI .i64) v3 b1.Shape, .fz (rI .i64) v4 b1.Data] Fr) hw2 (by change S wm 66 _ _ _ _ Fr; exact hS.keep (ka_cons rfl (ka_cons rfl (ka_cons rfl ka_nil))) (fun hI => (hI.sub (sc (sc (sc (sc (sc (sc sn))))))))) ?_
   clear hS
   intro i2 tm H c4 hS h3 hq3
   change S wm 66 tm H [(2, .pointer (some ⟨b2, 0, none⟩)), (3, .pointer (some ⟨b3, 0, none⟩)), (6, .int .i64 i2)] [.box b2 [.bool a1.Char, v1, v2], .box b3 [.bool b1.Char, v3, v4], .fz (rI .i64) v1 a1.Shape, .fz (rI .i64) v2 a1.Data, .fz (rI .i64) v3 b1.Shape, .fz (rI .i64) v4 b1.Data] Fr at hS
   refine c_seqS ?_
   refine c_reg fun R hR => ?_
   refine o_pure hS (.inl rfl) rfl rfl ?_; clear hS; try clear tm
   intro tm hS
   refine o_pure hS (.inl rfl) rfl rfl ?_; clear hS; try clear tm
   intro tm hS
   refine o_ld1 (k := 0) hS (.inl rfl) rfl rfl rfl (.inl rfl) Fu22 rfl rfl ?_; clear hS; try clear tm
   intro tm hS
   refine o_len (k := 3) (r := (rI .i64)) hS (.inl rfl) rfl rfl rfl (.inl rfl) Fu22 rfl ?_; clear hS; try clear tm
   intro tm hS
   refine o_pure hS (.inl rfl) rfl rfl ?_; clear hS; try clear tm
   intro tm hS
   refine o_nil (hR _ _ ?_)
   clear hR R
   refine c_cond hS rfl (fun hc => ?_) (fun hc => ?_)
   ·replace h3 := iteT hc h3
    refine wpC.skip ?_
    refine c_seqS ?_
    refine wpC.block ?_
    refine c_reg fun R hR => ?_
    refine o_pure hS (.inl rfl) rfl rfl ?_; clear hS; try clear tm
    intro tm hS
    refine o_ld1 (k := 0) hS (.inl rfl) rfl rfl rfl (.inl rfl) Fu22 rfl rfl ?_; clear hS; try clear tm
    intro tm hS
    refine o_pure hS (.inl rfl) rfl rfl ?_; clear hS; try clear tm
    intro tm hS
    obtain ⟨y3, hx3, h3⟩ := bindS h3
    refine o_ixA (k := 3) (r := (rI .i64)) hS (.inl rfl) rfl rfl rfl rfl (.inl rfl) Fu22 Fs2 hx3 ?_; clear hS; try clear tm
    intro tm hS
    refine o_ldF (r := (rI .i64)) (k := 3) hS (.inl rfl) rfl rfl rfl (.inl rfl) hx3 Fu2 rfl (flat_I _) rfl ?_; clear hS; try clear tm
    intro tm hS
    refine o_pure hS (.inl rfl) rfl rfl ?_; clear hS; try clear tm
    intro tm hS
    refine o_ld1 (k := 1) hS (.inl rfl) rfl rfl rfl (.inl rfl) Fu22 rfl rfl ?_; clear hS; try clear tm
    intro tm hS
    refine o_pure hS (.inl rfl) rfl rfl ?_; clear hS; try clear tm
    intro tm hS
    obtain ⟨y4, hx4, h3⟩ := bindS h3
    refine o_ixA (k := 5) (r := (rI .i64)) hS (.inl rfl) rfl rfl rfl rfl (.inl rfl) Fu22 Fs2 hx4 ?_; clear hS; try clear tm
    intro tm hS
    refine o_ldF (r := (rI .i64)) (k := 5) hS (.inl rfl) rfl rfl rfl (.inl rfl) hx4 Fu2 rfl (flat_I _) rfl ?_; clear hS; try clear tm
    intro tm hS
    refine o_pure hS (.inl rfl) rfl rfl ?_; clear hS; try clear tm
    intro tm hS
    refine o_nil (hR _ _ ?_)
    clear hR R
    refine c_cond hS rfl (fun hc => ?_) (fun hc => ?_)
    ·replace h3 := iteT hc h3
     refine c_reg fun R hR => ?_
     refine o_pure hS (.inl rfl) rfl rfl ?_; clear hS; try clear tm
     intro tm hS
     refine o_nil (hR _ _ ?_)
     clear hR R
     refine wpC.ret ?_
     obtain rfl := Option.some.inj h3
     obtain rfl := hq3 _ rfl
     refine And.intro rfl ?_
     obtain rfl := leave h0
     refine Exists.intro _ (And.intro (rs_tmp hS rfl rs_nil) ?_)
     have hI := hS.inv
     exact ⟨rfl, (hI.sub sn)⟩
    ·replace h3 := iteF hc h3
     refine wpC.skip ?_
     refine c_reg1 fun R hR => ?_
     refine o_pure hS (.inl rfl) rfl rfl ?_; clear hS; try clear tm
     intro tm hS
     refine o_pure hS (.inl rfl) rfl rfl ?_; clear hS; try clear tm
     intro tm hS
     refine o_pure hS (.inl rfl) rfl rfl ?_; clear hS; try clear tm
     intro tm hS
     refine o_nil (hR _ _ ?_)
     clear hR R
     obtain rfl := Option.some.inj h3
     refine ⟨_, rfl, ?_⟩
     change S wm 66 _ _ _ _ Fr; exact hS.keep (ka_cons rfl (ka_cons rfl (ka_cons rfl ka_nil))) (fun hI => (hI.sub (sc (sc (sc (sc (sc (sc sn))))))))
   ·replace h3 := iteF hc h3
    refine wpC.exit ?_
    obtain rfl := Option.some.inj h3
    obtain rfl := hq3 _ rfl
    refine And.intro rfl (blk_eq ?_)
    replace h0 := joinN h0
    refine c_reg fun R hR => ?_
    refine o_pure hS (.inl rfl) rfl rfl ?_; clear hS; try clear tm
    intro tm hS
    refine o_nil (hR _ _ ?_)
    clear hR R
    refine wpC.ret ?_
    obtain rfl := Option.some.inj h0
    refine Exists.intro _ (And.intro (rs_tmp hS rfl rs_nil) ?_)
    have hI := hS.inv
    exact ⟨rfl, (hI.sub sn)⟩
theorem wk6 {wm : Nat} {H : AHeap} {Fr : List Ent} (ho19 : ora 19 = true) (l1 : (List Int)) (draws1 : (List Int)) (cut1 : Int) (to1 : Int)  (v1 : Value) (v2 : Value) (hI : Kn wm H [.fz (rI .i64) v1 l1, .fz (rI .u64) v2 draws1] Fr) {r : Bool} (h0 : M.anamnesislaw13_RandRolls l1 draws1 cut1 to1 = some r) :
  wpF Try.prog ora wm 6 [v1, v2, .int .u8 cut1, .int .u64 to1] H (fun res H => res = .bool r ∧ Kn wm H [] Fr) := by
 unfold M.anamnesislaw13_RandRolls at h0
 refine f_enter (n := 202) Try.func6 rfl (by simp) hI rfl rfl rfl fun tm hS => ?_
 clear hI
 refine c_reg fun R hR => ?_
 refine o_pure hS (.inl rfl) rfl rfl ?_; clear hS; try clear tm
 intro tm hS
 refine o_nil (hR _ _ ?_)
 clear hR R
 refine c_seqS ?_
 refine c_reg fun R hR => ?_
 refine o_pure hS (.inl rfl) rfl rfl ?_; clear hS; try clear tm
 intro tm hS
 refine o_len (k := 0) (r := (rI .i64)) hS (.inl rfl) rfl rfl rfl (.inl rfl) Fu22 rfl ?_; clear hS; try clear tm
 intro tm hS
 refine o_pure hS (.inl rfl) rfl rfl ?_; clear hS; try clear tm
 intro tm hS
 refine o_nil (hR _ _ ?_)
 clear hR R
 refine c_cond hS rfl (fun hc => ?_) (fun hc => ?_)
 ·replace h0 := iteT hc h0
  refine c_reg fun R hR => ?_
  refine o_call hS (.inl rfl) rfl (fun wm' hw1 hw2 => wpF.told ho19 (Q := fun v H' => v = .bool true ∧ H' = H) ⟨rfl, rfl⟩) (fun wm' res H hw' hp => ?_)
  obtain ⟨rfl, rfl⟩ := hp
  replace hS := hS.put (d := 29) rfl (.bool true)
  clear hw'
  refine o_pure hS (.inl rfl) rfl rfl ?_; clear hS; try clear tm
  intro tm hS
  refine o_nil (hR _ _ ?_)
  clear hR R
  refine wpC.ret ?_
  obtain rfl := Option.some.inj h0
  refine Exists.intro _ (And.intro (rs_tmp hS rfl rs_nil) ?_)
  have hI := hS.inv
  exact ⟨rfl, (hI.sub sn)⟩
 ·replace h0 := iteF hc h0
  refine wpC.skip ?_
  refine c_seqS ?_
  refine c_reg fun R hR => ?_
  refine o_pure hS (.inl rfl) rfl rfl ?_; clear hS; try clear tm
  intro tm hS
  refine o_nil (hR _ _ ?_)
  clear hR R
  obtain ⟨k1, hw1, h0⟩ := bindS h0
  refine wpC.block ?_
  refine c_loop (I := fun (s : Int) tm H => match (generalizing := false) s with | i1 => S wm 202 tm H [(0, v1), (1, v2), (2, .int .u8 cut1), (3, .int .u64 to1), (9, .int .i64 i1)] [.fz (rI .i64) v1 l1, .fz (rI .u64) v2 draws1] Fr) hw1 (by change S wm 202 _ _ _ _ Fr; exact hS.keep (ka_cons rfl (ka_cons rfl (ka_cons rfl (ka_cons rfl (ka_cons rfl ka_nil))))) (fun hI => (hI.sub (sc (sc sn))))) ?_
  clear hS
  intro i1 tm H c1 hS h1 hq1
  change S wm 202 tm H [(0, v1), (1, v2), (2, .int .u8 cut1), (3, .int .u64 to1), (9, .int .i64 i1)] [.fz (rI .i64) v1 l1, .fz (rI .u64) v2 draws1] Fr at hS
  refine c_seqS ?_
  refine c_reg fun R hR => ?_
  refine o_pure hS (.inl rfl) rfl rfl ?_; clear hS; try clear tm
  intro tm hS
  refine o_pure hS (.inl rfl) rfl rfl ?_; clear hS; try clear tm
  intro tm hS
  refine o_len (k := 0) (r := (rI .i64)) hS (.inl rfl) rfl rfl rfl (.inl rfl) Fu22 rfl ?_; clear hS; try clear tm
  intro tm hS
  refine o_pure hS (.inl rfl) rfl rfl ?_; clear hS; try clear tm
  intro tm hS
  refine o_nil (hR _ _ ?_)
  clear hR R
  refine c_cond hS rfl (fun hc => ?_) (fun hc => ?_)
  ·replace h1 := iteT hc h1
   refine wpC.skip ?_
   refine c_seqS ?_
   refine wpC.block ?_
   refine c_reg fun R hR => ?_
   refine o_pure hS (.inl rfl) rfl rfl ?_; clear hS; try clear tm
   intro tm hS
   refine o_pure hS (.inl rfl) rfl rfl ?_; clear hS; try clear tm
   intro tm hS
   obtain ⟨y1, hx1, h1⟩ := bindS h1
   refine o_ixA (k := 0) (r := (rI .i64)) hS (.inl rfl) rfl rfl rfl rfl (.inl rfl) Fu22 Fs2 hx1 ?_; clear hS; try clear tm
   intro tm hS
   refine o_ldF (r := (rI .i64)) (k := 0) hS (.inl rfl) rfl rfl rfl (.inl rfl) hx1 Fu2 rfl (flat_I _) rfl ?_; clear hS; try clear tm
   intro tm hS
   refine o_pure hS (.inl rfl) rfl rfl ?_; clear hS; try clear tm
   intro tm hS
   refine o_nil (hR _ _ ?_)
   clear hR R
   refine c_cond hS rfl (fun hc => ?_) (fun hc => ?_)
   ·replace h1 := iteT hc h1
    refine c_reg fun R hR => ?_
    refine o_call hS (.inl rfl) rfl (fun wm' hw1 hw2 => wpF.told ho19 (Q := fun v H' => v = .bool true ∧ H' = H) ⟨rfl, rfl⟩) (fun wm' res H hw' hp => ?_)
    obtain ⟨rfl, rfl⟩ := hp
    replace hS := hS.put (d := 41) rfl (.bool true)
    clear hw'
    refine o_pure hS (.inl rfl) rfl rfl ?_; clear hS; try clear tm
    intro tm hS
    refine o_nil (hR _ _ ?_)
    clear hR R
    refine wpC.ret ?_
    obtain rfl := Option.some.inj h1
    obtain rfl := hq1 _ rfl
    refine And.intro rfl ?_
    obtain rfl := leave h0
    refine Exists.intro _ (And.intro (rs_tmp hS rfl rs_nil) ?_)
    have hI := hS.inv
    exact ⟨rfl, (hI.sub sn)⟩
   ·replace h1 := iteF hc h1
    refine wpC.skip ?_
    refine c_reg1 fun R hR => ?_
    refine o_pure hS (.inl rfl) rfl rfl ?_; clear hS; try clear tm
    intro tm hS
    refine o_pure hS (.inl rfl) rfl rfl ?_; clear hS; try clear tm
    intro tm hS
    refine o_pure hS (.inl rfl) rfl rfl ?_; clear hS; try clear tm
    intro tm hS
    refine o_nil (hR _ _ ?_)
    clear hR R
    obtain rfl := Option.some.inj h1
    refine ⟨_, rfl, ?_⟩
    change S wm 202 _ _ _ _ Fr; exact hS.keep (ka_cons rfl (ka_cons rfl (ka_cons rfl (ka_cons rfl (ka_cons rfl ka_nil))))) (fun hI => (hI.sub (sc (sc sn))))
  ·replace h1 := iteF hc h1
   refine wpC.exit ?_
   obtain rfl := Option.some.inj h1
   obtain rfl := hq1 _ rfl
   refine And.intro rfl (blk_eq ?_)
   replace h0 := joinN h0
   refine c_reg fun R hR => ?_
   refine o_pure hS (.inl rfl) rfl rfl ?_; clear hS; try clear tm
   intro tm hS
   refine o_pure hS (.inl rfl) rfl rfl ?_; clear hS; try clear tm
   intro tm hS
   refine o_pure hS (.inl rfl) rfl rfl ?_; clear hS; try clear tm
   intro tm hS
   refine o_len (k := 0) (r := (rI .i64)) hS (.inl rfl) rfl rfl rfl (.inl rfl) Fu22 rfl ?_; clear hS; try clear tm
   intro tm hS
   refine o_pure hS (.inl rfl) rfl rfl ?_; clear hS; try clear tm
   intro tm hS
   obtain ⟨q1, hx2, h0⟩ := bindS h0
   refine o_rem hS (.inl rfl) rfl rfl rfl hx2 ?_; clear hS; try clear tm
   intro tm hS
   refine o_pure hS (.inl rfl) rfl rfl ?_; clear hS; try clear tm
   intro tm hS
   refine o_nil (hR _ _ ?_)
   clear hR R
   refine c_reg fun R hR => ?_
   refine o_pure hS (.inl rfl) rfl rfl ?_; clear hS; try clear tm
   intro tm hS
   obtain ⟨r1, hx3, h0⟩ := bindS h0
   refine o_call hS (.inl rfl) rfl (fun wm' hw1 hw2 => wk15  l1  v1 ((hS.sel hw2).ad 0 rfl) hx3) (fun wm' res H hw' hp => ?_)
   obtain ⟨v3, v4, hres, hI⟩ := hp
   replace hres := hres.symm; subst hres
   replace hS : S wm 202 _ H ((50, .agg #[.bool r1.Char, v3, v4]) :: _) ([.own (rI .i64) v3 r1.Shape, .fz (rI .i64) v4 r1.Data] ++ _) Fr := hS.after rfl hw' hI
   clear hI hw'
   refine o_pure hS (.inl rfl) rfl rfl ?_; clear hS; try clear tm
   intro tm hS
   replace hS := hS.frz (k := 0) rfl
   obtain ⟨⟨r2, r3, r4⟩, hx4, h0⟩ := bindS h0
   refine o_call hS (.inl rfl) rfl (fun wm' hw1 hw2 => wk12  r1 draws1 0  v3 v4 v2 ((((hS.sel hw2).ad 3 rfl).ad 1 rfl).ad 0 rfl) hx4) (fun wm' res H hw' hp => ?_)
   obtain ⟨v5, v6, hres, hI⟩ := hp
   replace hres := hres.symm; subst hres
   replace hS : S wm 202 _ H ((52, .tuple #[.agg #[.bool r2.Char, v5, v6], .int .i64 r3, .int .i64 r4]) :: _) ([.own (rI .i64) v5 r2.Shape, .own (rI .i64) v6 r2.Data] ++ _) Fr := hS.after rfl hw' hI
   clear hI hw'
   refine o_pure hS (.inl rfl) rfl rfl ?_; clear hS; try clear tm
   intro tm hS
   refine o_pure hS (.inl rfl) rfl rfl ?_; clear hS; try clear tm
   intro tm hS
   refine o_pure hS (.inl rfl) rfl rfl ?_; clear hS; try clear tm
   intro tm hS
   refine o_pure hS (.inl rfl) rfl rfl ?_; clear hS; try clear tm
   intro tm hS
   refine o_alloc hS (.inl rfl) rfl Fz25 (by decide) ?_; clear hS; try clear tm H
   intro b1 tm H hS
   refine o_st (k := 0) hS (.inl rfl) rfl rfl rfl Fs25 rfl rfl (all_cons rfl (all_cons (hS.one (k := 1) rfl (.inr (.inl rfl))) (all_cons (hS.one (k := 2) rfl (.inr (.inl rfl))) all_nil))) rfl ?_; clear hS; try clear H
   intro H hS
   refine o_pure hS (.inl rfl) rfl rfl ?_; clear hS; try clear tm
   intro tm hS
   refine o_pure hS (.inl rfl) rfl rfl ?_; clear hS; try clear tm
   intro tm hS
   refine o_nil (hR _ _ ?_)
   clear hR R
   refine c_reg fun R hR => ?_
   refine o_pure hS (.inl rfl) rfl rfl ?_; clear hS; try clear tm
   intro tm hS
   refine o_pure hS (.inl rfl) rfl rfl ?_; clear hS; try clear tm
   intro tm hS
   obtain ⟨l2, hx5, h0⟩ := bindS h0
   refine o_sl (k := 5) (r := (rI .i64)) hS (.inl rfl) rfl rfl rfl Fu22 Fs2 rfl rfl hx5 ?_; clear hS; try clear tm
   intro v7 tm hS
   obtain ⟨r5, hx6, h0⟩ := bindS h0
   refine o_call hS (.inl rfl) rfl (fun wm' hw1 hw2 => wk15  l2  v7 ((hS.sel hw2).ad 0 rfl) hx6) (fun wm' res H hw' hp => ?_)
   obtain ⟨v8, v9, hres, hI⟩ := hp
   replace hres := hres.symm; subst hres
   replace hS : S wm 202 _ H ((60, .agg #[.bool r5.Char, v8, v9]) :: _) ([.own (rI .i64) v8 r5.Shape, .fz (rI .i64) v9 r5.Data] ++ _) Fr := hS.after rfl hw' hI
   clear hI hw'
   refine o_pure hS (.inl rfl) rfl rfl ?_; clear hS; try clear tm
   intro tm hS
   replace hS := hS.frz (k := 0) rfl
   obtain ⟨⟨r6, r7, r8⟩, hx7, h0⟩ := bindS h0
   refine o_call hS (.inl rfl) rfl (fun wm' hw1 hw2 => wk12  r5 draws1 0  v8 v9 v2 ((((hS.sel hw2).ad 9 rfl).ad 1 rfl).ad 0 rfl) hx7) (fun wm' res H hw' hp => ?_)
   obtain ⟨v10, v11, hres, hI⟩ := hp
   replace hres := hres.symm; subst hres
   replace hS : S wm 202 _ H ((62, .tuple #[.agg #[.bool r6.Char, v10, v11], .int .i64 r7, .int .i64 r8]) :: _) ([.own (rI .i64) v10 r6.Shape, .own (rI .i64) v11 r6.Data] ++ _) Fr := hS.after rfl hw' hI
   clear hI hw'
   refine o_pure hS (.inl rfl) rfl rfl ?_; clear hS; try clear tm
   intro tm hS
   refine o_pure hS (.inl rfl) rfl rfl ?_; clear hS; try clear tm
   intro tm hS
   refine o_pure hS (.inl rfl) rfl rfl ?_; clear hS; try clear tm
   intro tm hS
   refine o_pure hS (.inl rfl) rfl rfl ?_; clear hS; try clear tm
   intro tm hS
   refine o_alloc hS (.inl rfl) rfl Fz25 (by decide) ?_; clear hS; try clear tm H
   intro b2 tm H hS
   refine o_st (k := 0) hS (.inl rfl) rfl rfl rfl Fs25 rfl rfl (all_cons rfl (all_cons (hS.one (k := 1) rfl (.inr (.inl rfl))) (all_cons (hS.one (k := 2) rfl (.inr (.inl rfl))) all_nil))) rfl ?_; clear hS; try clear H
   intro H hS
   refine o_pure hS (.inl rfl) rfl rfl ?_; clear hS; try clear tm
   intro tm hS
   refine o_pure hS (.inl rfl) rfl rfl ?_; clear hS; try clear tm
   intro tm hS
   refine o_nil (hR _ _ ?_)
   clear hR R
   refine c_reg fun R hR => ?_
   refine o_pure hS (.inl rfl) rfl rfl ?_; clear hS; try clear tm
   intro tm hS
   refine o_pure hS (.inl rfl) rfl rfl ?_; clear hS; try clear tm
   intro tm hS
   obtain ⟨l3, hx8, h0⟩ := bindS h0
   refine o_sl (k := 11) (r := (rI .i64)) hS (.inl rfl) rfl rfl rfl Fu22 Fs2 rfl rfl hx8 ?_; clear hS; try clear tm
   intro v12 tm hS
   obtain ⟨r9, hx9, h0⟩ := bindS h0
   refine o_call hS (.inl rfl) rfl (fun wm' hw1 hw2 => wk15  l3  v12 ((hS.sel hw2).ad 0 rfl) hx9) (fun wm' res H hw' hp => ?_)
   obtain ⟨v13, v14, hres, hI⟩ := hp
   replace hres := hres.symm; subst hres
   replace hS : S wm 202 _ H ((70, .agg #[.bool r9.Char, v13, v14]) :: _) ([.own (rI .i64) v13 r9.Shape, .fz (rI .i64) v14 r9.Data] ++ _) Fr := hS.after rfl hw' hI
   clear hI hw'
   refine o_pure hS (.inl rfl) rfl rfl ?_; clear hS; try clear tm
   intro tm hS
   refine o_pure hS (.inl rfl) rfl rfl ?_; clear hS; try clear tm
   intro tm hS
   replace hS := hS.frz (k := 0) rfl
   obtain ⟨⟨r10, r11, r12⟩, hx10, h0⟩ := bindS h0
   refine o_call hS (.inl rfl) rfl (fun wm' hw1 hw2 => wk12  r9 draws1 r7  v13 v14 v2 ((((hS.sel hw2).ad 15 rfl).ad 1 rfl).ad 0 rfl) hx10) (fun wm' res H hw' hp => ?_)
   obtain ⟨v15, v16, hres, hI⟩ := hp
   replace hres := hres.symm; subst hres
   replace hS : S wm 202 _ H ((73, .tuple #[.agg #[.bool r10.Char, v15, v16], .int .i64 r11, .int .i64 r12]) :: _) ([.own (rI .i64) v15 r10.Shape, .own (rI .i64) v16 r10.Data] ++ _) Fr := hS.after rfl hw' hI
   clear hI hw'
   refine o_pure hS (.inl rfl) rfl rfl ?_; clear hS; try clear tm
   intro tm hS
   refine o_pure hS (.inl rfl) rfl rfl ?_; clear hS; try clear tm
   intro tm hS
   refine o_pure hS (.inl rfl) rfl rfl ?_; clear hS; try clear tm
   intro tm hS
   refine o_pure hS (.inl rfl) rfl rfl ?_; clear hS; try clear tm
   intro tm hS
   refine o_alloc hS (.inl rfl) rfl Fz25 (by decide) ?_; clear hS; try clear tm H
   intro b3 tm H hS
   refine o_st (k := 0) hS (.inl rfl) rfl rfl rfl Fs25 rfl rfl (all_cons rfl (all_cons (hS.one (k := 1) rfl (.inr (.inl rfl))) (all_cons (hS.one (k := 2) rfl (.inr (.inl rfl))) all_nil))) rfl ?_; clear hS; try clear H
   intro H hS
   refine o_pure hS (.inl rfl) rfl rfl ?_; clear hS; try clear tm
   intro tm hS
   refine o_pure hS (.inl rfl) rfl rfl ?_; clear hS; try clear tm
   intro tm hS
   refine o_nil (hR _ _ ?_)
   clear hR R
   refine c_seqS ?_
   refine c_reg fun R hR => ?_
   refine o_pure hS (.inl rfl) rfl rfl ?_; clear hS; try clear tm
   intro tm hS
   refine o_pure hS (.inl rfl) rfl rfl ?_; clear hS; try clear tm
   intro tm hS
   refine o_pure hS (.inl rfl) rfl rfl ?_; clear hS; try clear tm
   intro tm hS
   obtain ⟨c2, hc1⟩ : ∃ x : Bool, x = ((r4 != 0) || (r8 != 0)) := ⟨_, rfl⟩
   refine o_cutN 3 (J := fun tm H => S wm 202 tm H [(82, .bool c2), (0, v1), (3, .int .u64 to1), (10, .int .i64 q1), (11, .pointer (some ⟨b1, 0, none⟩)), (12, .int .i64 r3), (14, .pointer (some ⟨b2, 0, none⟩)), (15, .int .i64 r7), (17, .pointer (some ⟨b3, 0, none⟩)), (18, .int .i64 r11), (19, .int .i64 r12)] [.box b3 [.bool r10.Char, v15, v16], .own (rI .i64) v15 r10.Shape, .own (rI .i64) v16 r10.Data, .box b2 [.bool r6.Char, v10, v11], .own (rI .i64) v10 r6.Shape, .own (rI .i64) v11 r6.Data, .box b1 [.bool r2.Char, v5, v6], .own (rI .i64) v5 r2.Shape, .own (rI .i64) v6 r2.Data, .fz (rI .i64) v1 l1] Fr) ?_ ?_
   ·rcases Bool.eq_false_or_eq_true (r4 != 0) with hg1 | hg1
    ·refine o_skip hS rfl rfl rfl hg1 ?_; clear hS; try clear tm
     intro tm hS
     refine o_skip hS rfl rfl rfl hg1 ?_; clear hS; try clear tm
     intro tm hS
     refine o_pickT hS (.inl rfl) rfl rfl hg1 rfl ?_; clear hS; try clear tm
     intro tm hS
     have hc1 : c2 = true := hc1.trans (by rw [hg1]; first | rfl | simp)
     subst hc1
     exact o_nil (hS.keep (ka_cons rfl (ka_cons rfl (ka_cons rfl (ka_cons rfl (ka_cons rfl (ka_cons rfl (ka_cons rfl (ka_cons rfl (ka_cons rfl (ka_cons rfl (ka_cons rfl ka_nil))))))))))) (fun hI => (hI.sub (sc (sc (sc (sd (sd (sd (sc (sc (sc (sd (sd (sd (sc (sc (sc (sd (sd (sc sn)))))))))))))))))))))
    ·refine o_pure hS (.inr ⟨_, _, _, _, rfl, rfl, rfl, hg1⟩) rfl rfl ?_; clear hS; try clear tm
     intro tm hS
     refine o_pure hS (.inr ⟨_, _, _, _, rfl, rfl, rfl, hg1⟩) rfl rfl ?_; clear hS; try clear tm
     intro tm hS
     refine o_pickF hS (.inl rfl) rfl rfl hg1 rfl ?_; clear hS; try clear tm
     intro tm hS
     have hc1 : c2 = (r8 != 0) := hc1.trans (by rw [hg1]; first | rfl | simp)
     subst hc1
     exact o_nil (hS.keep (ka_cons rfl (ka_cons rfl (ka_cons rfl (ka_cons rfl (ka_cons rfl (ka_cons rfl (ka_cons rfl (ka_cons rfl (ka_cons rfl (ka_cons rfl (ka_cons rfl ka_nil))))))))))) (fun hI => (hI.sub (sc (sc (sc (sd (sd (sd (sc (sc (sc (sd (sd (sd (sc (sc (sc (sd (sd (sc sn)))))))))))))))))))))
   intro tm H hS
   subst hc1
   refine o_pure hS (.inl rfl) rfl rfl ?_; clear hS; try clear tm
   intro tm hS
   obtain ⟨c3, hc2⟩ : ∃ x : Bool, x = (((r4 != 0) || (r8 != 0)) || (r12 != 0)) := ⟨_, rfl⟩
   refine o_cutN 3 (J := fun tm H => S wm 202 tm H [(86, .bool c3), (0, v1), (3, .int .u64 to1), (10, .int .i64 q1), (11, .pointer (some ⟨b1, 0, none⟩)), (12, .int .i64 r3), (14, .pointer (some ⟨b2, 0, none⟩)), (15, .int .i64 r7), (17, .pointer (some ⟨b3, 0, none⟩)), (18, .int .i64 r11)] [.box b3 [.bool r10.Char, v15, v16], .own (rI .i64) v15 r10.Shape, .own (rI .i64) v16 r10.Data, .box b2 [.bool r6.Char, v10, v11], .own (rI .i64) v10 r6.Shape, .own (rI .i64) v11 r6.Data, .box b1 [.bool r2.Char, v5, v6], .own (rI .i64) v5 r2.Shape, .own (rI .i64) v6 r2.Data, .fz (rI .i64) v1 l1] Fr) ?_ ?_
   ·rcases Bool.eq_false_or_eq_true ((r4 != 0) || (r8 != 0)) with hg2 | hg2
    ·refine o_skip hS rfl rfl rfl hg2 ?_; clear hS; try clear tm
     intro tm hS
     refine o_skip hS rfl rfl rfl hg2 ?_; clear hS; try clear tm
     intro tm hS
     refine o_pickT hS (.inl rfl) rfl rfl hg2 rfl ?_; clear hS; try clear tm
     intro tm hS
     have hc2 : c3 = true := hc2.trans (by rw [hg2]; first | rfl | simp)
     subst hc2
     exact o_nil (hS.keep (ka_cons rfl (ka_cons rfl (ka_cons rfl (ka_cons rfl (ka_cons rfl (ka_cons rfl (ka_cons rfl (ka_cons rfl (ka_cons rfl (ka_cons rfl ka_nil)))))))))) (fun hI => (hI.sub (sc (sc (sc (sc (sc (sc (sc (sc (sc (sc sn)))))))))))))
    ·refine o_pure hS (.inr ⟨_, _, _, _, rfl, rfl, rfl, hg2⟩) rfl rfl ?_; clear hS; try clear tm
     intro tm hS
     refine o_pure hS (.inr ⟨_, _, _, _, rfl, rfl, rfl, hg2⟩) rfl rfl ?_; clear hS; try clear tm
     intro tm hS
     refine o_pickF hS (.inl rfl) rfl rfl hg2 rfl ?_; clear hS; try clear tm
     intro tm hS
     have hc2 : c3 = (r12 != 0) := hc2.trans (by rw [hg2]; first | rfl | simp)
     subst hc2
     exact o_nil (hS.keep (ka_cons rfl (ka_cons rfl (ka_cons rfl (ka_cons rfl (ka_cons rfl (ka_cons rfl (ka_cons rfl (ka_cons rfl (ka_cons rfl (ka_cons rfl ka_nil)))))))))) (fun hI => (hI.sub (sc (sc (sc (sc (sc (sc (sc (sc (sc (sc sn)))))))))))))
   intro tm H hS
   subst hc2
   refine o_pure hS (.inl rfl) rfl rfl ?_; clear hS; try clear tm
   intro tm hS
   obtain ⟨c4, hc3⟩ : ∃ x : Bool, x = ((((r4 != 0) || (r8 != 0)) || (r12 != 0)) || (r3 != (l1.length : Int))) := ⟨_, rfl⟩
   refine o_cutN 5 (J := fun tm H => S wm 202 tm H [(92, .bool c4), (0, v1), (3, .int .u64 to1), (10, .int .i64 q1), (11, .pointer (some ⟨b1, 0, none⟩)), (12, .int .i64 r3), (14, .pointer (some ⟨b2, 0, none⟩)), (15, .int .i64 r7), (17, .pointer (some ⟨b3, 0, none⟩)), (18, .int .i64 r11)] [.box b3 [.bool r10.Char, v15, v16], .own (rI .i64) v15 r10.Shape, .own (rI .i64) v16 r10.Data, .box b2 [.bool r6.Char, v10, v11], .own (rI .i64) v10 r6.Shape, .own (rI .i64) v11 r6.Data, .box b1 [.bool r2.Char, v5, v6], .own (rI .i64) v5 r2.Shape, .own (rI .i64) v6 r2.Data, .fz (rI .i64) v1 l1] Fr) ?_ ?_
   ·rcases Bool.eq_false_or_eq_true (((r4 != 0) || (r8 != 0)) || (r12 != 0)) with hg3 | hg3
    ·refine o_skip hS rfl rfl rfl hg3 ?_; clear hS; try clear tm
     intro tm hS
     refine o_skip hS rfl rfl rfl hg3 ?_; clear hS; try clear tm
     intro tm hS
     refine o_skip hS rfl rfl rfl hg3 ?_; clear hS; try clear tm
     intro tm hS
     refine o_skip hS rfl rfl rfl hg3 ?_; clear hS; try clear tm
     intro tm hS
     refine o_pickT hS (.inl rfl) rfl rfl hg3 rfl ?_; clear hS; try clear tm
     intro tm hS
     have hc3 : c4 = true := hc3.trans (by rw [hg3]; first | rfl | simp)
     subst hc3
     exact o_nil (hS.keep (ka_cons rfl (ka_cons rfl (ka_cons rfl (ka_cons rfl (ka_cons rfl (ka_cons rfl (ka_cons rfl (ka_cons rfl (ka_cons rfl (ka_cons rfl ka_nil)))))))))) (fun hI => (hI.sub (sc (sc (sc (sc (sc (sc (sc (sc (sc (sc sn)))))))))))))
    ·refine o_pure hS (.inr ⟨_, _, _, _, rfl, rfl, rfl, hg3⟩) rfl rfl ?_; clear hS; try clear tm
     intro tm hS
     refine o_pure hS (.inr ⟨_, _, _, _, rfl, rfl, rfl, hg3⟩) rfl rfl ?_; clear hS; try clear tm
     intro tm hS
     refine o_len (k := 9) (r := (rI .i64)) hS (.inr ⟨_, _, _, _, rfl, rfl, rfl, hg3⟩) rfl rfl rfl (.inl rfl) Fu22 rfl ?_; clear hS; try clear tm
     intro tm hS
     refine o_pure hS (.inr ⟨_, _, _, _, rfl, rfl, rfl, hg3⟩) rfl rfl ?_; clear hS; try clear tm
     intro tm hS
     refine o_pickF hS (.inl rfl) rfl rfl hg3 rfl ?_; clear hS; try clear tm
     intro tm hS
     have hc3 : c4 = (r3 != (l1.length : Int)) := hc3.trans (by rw [hg3]; first | rfl | simp)
     subst hc3
     exact o_nil (hS.keep (ka_cons rfl (ka_cons rfl (ka_cons rfl (ka_cons rfl (ka_cons rfl (ka_cons rfl (ka_cons rfl (ka_cons rfl (ka_cons rfl (ka_cons rfl ka_nil)))))))))) (fun hI => (hI.sub (sc (sc (sc (sc (sc (sc (sc (sc (sc (sc sn)))))))))))))
   intro tm H hS
   subst hc3
   refine o_pure hS (.inl rfl) rfl rfl ?_; clear hS; try clear tm
   intro tm hS
   obtain ⟨c5, hc4⟩ : ∃ x : Bool, x = (((((r4 != 0) || (r8 != 0)) || (r12 != 0)) || (r3 != (l1.length : Int))) || (r7 != q1)) := ⟨_, rfl⟩
   refine o_cutN 4 (J := fun tm H => S wm 202 tm H [(97, .bool c5), (0, v1), (3, .int .u64 to1), (10, .int .i64 q1), (11, .pointer (some ⟨b1, 0, none⟩)), (12, .int .i64 r3), (14, .pointer (some ⟨b2, 0, none⟩)), (17, .pointer (some ⟨b3, 0, none⟩)), (18, .int .i64 r11)] [.box b3 [.bool r10.Char, v15, v16], .own (rI .i64) v15 r10.Shape, .own (rI .i64) v16 r10.Data, .box b2 [.bool r6.Char, v10, v11], .own (rI .i64) v10 r6.Shape, .own (rI .i64) v11 r6.Data, .box b1 [.bool r2.Char, v5, v6], .own (rI .i64) v5 r2.Shape, .own (rI .i64) v6 r2.Data, .fz (rI .i64) v1 l1] Fr) ?_ ?_
   ·rcases Bool.eq_false_or_eq_true ((((r4 != 0) || (r8 != 0)) || (r12 != 0)) || (r3 != (l1.length : Int))) with hg4 | hg4
    ·refine o_skip hS rfl rfl rfl hg4 ?_; clear hS; try clear tm
     intro tm hS
     refine o_skip hS rfl rfl rfl hg4 ?_; clear hS; try clear tm
     intro tm hS
     refine o_skip hS rfl rfl rfl hg4 ?_; clear hS; try clear tm
     intro tm hS
     refine o_pickT hS (.inl rfl) rfl rfl hg4 rfl ?_; clear hS; try clear tm
     intro tm hS
     have hc4 : c5 = true := hc4.trans (by rw [hg4]; first | rfl | simp)
     subst hc4
     exact o_nil (hS.keep (ka_cons rfl (ka_cons rfl (ka_cons rfl (ka_cons rfl (ka_cons rfl (ka_cons rfl (ka_cons rfl (ka_cons rfl (ka_cons rfl ka_nil))))))))) (fun hI => (hI.sub (sc (sc (sc (sc (sc (sc (sc (sc (sc (sc sn)))))))))))))
    ·refine o_pure hS (.inr ⟨_, _, _, _, rfl, rfl, rfl, hg4⟩) rfl rfl ?_; clear hS; try clear tm
     intro tm hS
     refine o_pure hS (.inr ⟨_, _, _, _, rfl, rfl, rfl, hg4⟩) rfl rfl ?_; clear hS; try clear tm
     intro tm hS
     refine o_pure hS (.inr ⟨_, _, _, _, rfl, rfl, rfl, hg4⟩) rfl rfl ?_; clear hS; try clear tm
     intro tm hS
     refine o_pickF hS (.inl rfl) rfl rfl hg4 rfl ?_; clear hS; try clear tm
     intro tm hS
     have hc4 : c5 = (r7 != q1) := hc4.trans (by rw [hg4]; first | rfl | simp)
     subst hc4
     exact o_nil (hS.keep (ka_cons rfl (ka_cons rfl (ka_cons rfl (ka_cons rfl (ka_cons rfl (ka_cons rfl (ka_cons rfl (ka_cons rfl (ka_cons rfl ka_nil))))))))) (fun hI => (hI.sub (sc (sc (sc (sc (sc (sc (sc (sc (sc (sc sn)))))))))))))
   intro tm H hS
   subst hc4
   refine o_pure hS (.inl rfl) rfl rfl ?_; clear hS; try clear tm
   intro tm hS
   obtain ⟨c6, hc5⟩ : ∃ x : Bool, x = ((((((r4 != 0) || (r8 != 0)) || (r12 != 0)) || (r3 != (l1.length : Int))) || (r7 != q1)) || (r11 != r3)) := ⟨_, rfl⟩
   refine o_cutN 4 (J := fun tm H => S wm 202 tm H [(102, .bool c6), (0, v1), (3, .int .u64 to1), (10, .int .i64 q1), (11, .pointer (some ⟨b1, 0, none⟩)), (12, .int .i64 r3), (14, .pointer (some ⟨b2, 0, none⟩)), (17, .pointer (some ⟨b3, 0, none⟩))] [.box b3 [.bool r10.Char, v15, v16], .own (rI .i64) v15 r10.Shape, .own (rI .i64) v16 r10.Data, .box b2 [.bool r6.Char, v10, v11], .own (rI .i64) v10 r6.Shape, .own (rI .i64) v11 r6.Data, .box b1 [.bool r2.Char, v5, v6], .own (rI .i64) v5 r2.Shape, .own (rI .i64) v6 r2.Data, .fz (rI .i64) v1 l1] Fr) ?_ ?_
   ·rcases Bool.eq_false_or_eq_true (((((r4 != 0) || (r8 != 0)) || (r12 != 0)) || (r3 != (l1.length : Int))) || (r7 != q1)) with hg5 | hg5
    ·refine o_skip hS rfl rfl rfl hg5 ?_; clear hS; try clear tm
     intro tm hS
     refine o_skip hS rfl rfl rfl hg5 ?_; clear hS; try clear tm
     intro tm hS
     refine o_skip hS rfl rfl rfl hg5 ?_; clear hS; try clear tm
     intro tm hS
     refine o_pickT hS (.inl rfl) rfl rfl hg5 rfl ?_; clear hS; try clear tm
     intro tm hS
     have hc5 : c6 = true := hc5.trans (by rw [hg5]; first | rfl | simp)
     subst hc5
     exact o_nil (hS.keep (ka_cons rfl (ka_cons rfl (ka_cons rfl (ka_cons rfl (ka_cons rfl (ka_cons rfl (ka_cons rfl (ka_cons rfl ka_nil)))))))) (fun hI => (hI.sub (sc (sc (sc (sc (sc (sc (sc (sc (sc (sc sn)))))))))))))
    ·refine o_pure hS (.inr ⟨_, _, _, _, rfl, rfl, rfl, hg5⟩) rfl rfl ?_; clear hS; try clear tm
     intro tm hS
     refine o_pure hS (.inr ⟨_, _, _, _, rfl, rfl, rfl, hg5⟩) rfl rfl ?_; clear hS; try clear tm
     intro tm hS
     refine o_pure hS (.inr ⟨_, _, _, _, rfl, rfl, rfl, hg5⟩) rfl rfl ?_; clear hS; try clear tm
     intro tm hS
     refine o_pickF hS (.inl rfl) rfl rfl hg5 rfl ?_; clear hS; try clear tm
     intro tm hS
     have hc5 : c6 = (r11 != r3) := hc5.trans (by rw [hg5]; first | rfl | simp)
     subst hc5
     exact o_nil (hS.keep (ka_cons rfl (ka_cons rfl (ka_cons rfl (ka_cons rfl (ka_cons rfl (ka_cons rfl (ka_cons rfl (ka_cons rfl ka_nil)))))))) (fun hI => (hI.sub (sc (sc (sc (sc (sc (sc (sc (sc (sc (sc sn)))))))))))))
   intro tm H hS
   subst hc5
   refine o_pure hS (.inl rfl) rfl rfl ?_; clear hS; try clear tm
   intro tm hS
   obtain ⟨c7, hc6⟩ : ∃ x : Bool, x = (((((((r4 != 0) || (r8 != 0)) || (r12 != 0)) || (r3 != (l1.length : Int))) || (r7 != q1)) || (r11 != r3)) || ((r2.Data.length : Int) != r3)) := ⟨_, rfl⟩
   refine o_cutN 6 (J := fun tm H => S wm 202 tm H [(109, .bool c7), (0, v1), (3, .int .u64 to1), (10, .int .i64 q1), (11, .pointer (some ⟨b1, 0, none⟩)), (12, .int .i64 r3), (14, .pointer (some ⟨b2, 0, none⟩)), (17, .pointer (some ⟨b3, 0, none⟩))] [.box b3 [.bool r10.Char, v15, v16], .own (rI .i64) v15 r10.Shape, .own (rI .i64) v16 r10.Data, .box b2 [.bool r6.Char, v10, v11], .own (rI .i64) v10 r6.Shape, .own (rI .i64) v11 r6.Data, .box b1 [.bool r2.Char, v5, v6], .own (rI .i64) v5 r2.Shape, .own (rI .i64) v6 r2.Data, .fz (rI .i64) v1 l1] Fr) ?_ ?_
   ·rcases Bool.eq_false_or_eq_true ((((((r4 != 0) || (r8 != 0)) || (r12 != 0)) || (r3 != (l1.length : Int))) || (r7 != q1)) || (r11 != r3)) with hg6 | hg6
    ·refine o_skip hS rfl rfl rfl hg6 ?_; clear hS; try clear tm
     intro tm hS
     refine o_skip hS rfl rfl rfl hg6 ?_; clear hS; try clear tm
     intro tm hS
     refine o_skip hS rfl rfl rfl hg6 ?_; clear hS; try clear tm
     intro tm hS
     refine o_skip hS rfl rfl rfl hg6 ?_; clear hS; try clear tm
     intro tm hS
     refine o_skip hS rfl rfl rfl hg6 ?_; clear hS; try clear tm
     intro tm hS
     refine o_pickT hS (.inl rfl) rfl rfl hg6 rfl ?_; clear hS; try clear tm
     intro tm hS
     have hc6 : c7 = true := hc6.trans (by rw [hg6]; first | rfl | simp)
     subst hc6
     exact o_nil (hS.keep (ka_cons rfl (ka_cons rfl (ka_cons rfl (ka_cons rfl (ka_cons rfl (ka_cons rfl (ka_cons rfl (ka_cons rfl ka_nil)))))))) (fun hI => (hI.sub (sc (sc (sc (sc (sc (sc (sc (sc (sc (sc sn)))))))))))))
    ·refine o_pure hS (.inr ⟨_, _, _, _, rfl, rfl, rfl, hg6⟩) rfl rfl ?_; clear hS; try clear tm
     intro tm hS
     refine o_ld1 (k := 6) hS (.inr ⟨_, _, _, _, rfl, rfl, rfl, hg6⟩) rfl rfl rfl (.inl rfl) Fu22 rfl rfl ?_; clear hS; try clear tm
     intro tm hS
     refine o_len (k := 8) (r := (rI .i64)) hS (.inr ⟨_, _, _, _, rfl, rfl, rfl, hg6⟩) rfl rfl rfl (.inr (.inl rfl)) Fu22 rfl ?_; clear hS; try clear tm
     intro tm hS
     refine o_pure hS (.inr ⟨_, _, _, _, rfl, rfl, rfl, hg6⟩) rfl rfl ?_; clear hS; try clear tm
     intro tm hS
     refine o_pure hS (.inr ⟨_, _, _, _, rfl, rfl, rfl, hg6⟩) rfl rfl ?_; clear hS; try clear tm
     intro tm hS
     refine o_pickF hS (.inl rfl) rfl rfl hg6 rfl ?_; clear hS; try clear tm
     intro tm hS
     have hc6 : c7 = ((r2.Data.length : Int) != r3) := hc6.trans (by rw [hg6]; first | rfl | simp)
     subst hc6
     exact o_nil (hS.keep (ka_cons rfl (ka_cons rfl (ka_cons rfl (ka_cons rfl (ka_cons rfl (ka_cons rfl (ka_cons rfl (ka_cons rfl ka_nil)))))))) (fun hI => (hI.sub (sc (sc (sc (sc (sc (sc (sc (sc (sc (sc sn)))))))))))))
   intro tm H hS
   subst hc6
   refine o_pure hS (.inl rfl) rfl rfl ?_; clear hS; try clear tm
   intro tm hS
   obtain ⟨c8, hc7⟩ : ∃ x : Bool, x = ((((((((r4 != 0) || (r8 != 0)) || (r12 != 0)) || (r3 != (l1.length : Int))) || (r7 != q1)) || (r11 != r3)) || ((r2.Data.length : Int) != r3)) || ((r6.Data.length : Int) != q1)) := ⟨_, rfl⟩
   refine o_cutN 6 (J := fun tm H => S wm 202 tm H [(116, .bool c8), (0, v1), (3, .int .u64 to1), (10, .int .i64 q1), (11, .pointer (some ⟨b1, 0, none⟩)), (12, .int .i64 r3), (14, .pointer (some ⟨b2, 0, none⟩)), (17, .pointer (some ⟨b3, 0, none⟩))] [.box b3 [.bool r10.Char, v15, v16], .own (rI .i64) v15 r10.Shape, .own (rI .i64) v16 r10.Data, .box b2 [.bool r6.Char, v10, v11], .own (rI .i64) v10 r6.Shape, .own (rI .i64) v11 r6.Data, .box b1 [.bool r2.Char, v5, v6], .own (rI .i64) v5 r2.Shape, .own (rI .i64) v6 r2.Data, .fz (rI .i64) v1 l1] Fr) ?_ ?_
   ·rcases Bool.eq_false_or_eq_true (((((((r4 != 0) || (r8 != 0)) || (r12 != 0)) || (r3 != (l1.length : Int))) || (r7 != q1)) || (r11 != r3)) || ((r2.Data.length : Int) != r3)) with hg7 | hg7
    ·refine o_skip hS rfl rfl rfl hg7 ?_; clear hS; try clear tm
     intro tm hS
     refine o_skip hS rfl rfl rfl hg7 ?_; clear hS; try clear tm
     intro tm hS
     refine o_skip hS rfl rfl rfl hg7 ?_; clear hS; try clear tm
     intro tm hS
     refine o_skip hS rfl rfl rfl hg7 ?_; clear hS; try clear tm
     intro tm hS
     refine o_skip hS rfl rfl rfl hg7 ?_; clear hS; try clear tm
     intro tm hS
     refine o_pickT hS (.inl rfl) rfl rfl hg7 rfl ?_; clear hS; try clear tm
     intro tm hS
     have hc7 : c8 = true := hc7.trans (by rw [hg7]; first | rfl | simp)
     subst hc7
     exact o_nil (hS.keep (ka_cons rfl (ka_cons rfl (ka_cons rfl (ka_cons rfl (ka_cons rfl (ka_cons rfl (ka_cons rfl (ka_cons rfl ka_nil)))))))) (fun hI => (hI.sub (sc (sc (sc (sc (sc (sc (sc (sc (sc (sc sn)))))))))))))
    ·refine o_pure hS (.inr ⟨_, _, _, _, rfl, rfl, rfl, hg7⟩) rfl rfl ?_; clear hS; try clear tm
     intro tm hS
     refine o_ld1 (k := 3) hS (.inr ⟨_, _, _, _, rfl, rfl, rfl, hg7⟩) rfl rfl rfl (.inl rfl) Fu22 rfl rfl ?_; clear hS; try clear tm
     intro tm hS
     refine o_len (k := 5) (r := (rI .i64)) hS (.inr ⟨_, _, _, _, rfl, rfl, rfl, hg7⟩) rfl rfl rfl (.inr (.inl rfl)) Fu22 rfl ?_; clear hS; try clear tm
     intro tm hS
     refine o_pure hS (.inr ⟨_, _, _, _, rfl, rfl, rfl, hg7⟩) rfl rfl ?_; clear hS; try clear tm
     intro tm hS
     refine o_pure hS (.inr ⟨_, _, _, _, rfl, rfl, rfl, hg7⟩) rfl rfl ?_; clear hS; try clear tm
     intro tm hS
     refine o_pickF hS (.inl rfl) rfl rfl hg7 rfl ?_; clear hS; try clear tm
     intro tm hS
     have hc7 : c8 = ((r6.Data.length : Int) != q1) := hc7.trans (by rw [hg7]; first | rfl | simp)
     subst hc7
     exact o_nil (hS.keep (ka_cons rfl (ka_cons rfl (ka_cons rfl (ka_cons rfl (ka_cons rfl (ka_cons rfl (ka_cons rfl (ka_cons rfl ka_nil)))))))) (fun hI => (hI.sub (sc (sc (sc (sc (sc (sc (sc (sc (sc (sc sn)))))))))))))
   intro tm H hS
   subst hc7
   refine o_pure hS (.inl rfl) rfl rfl ?_; clear hS; try clear tm
   intro tm hS
   obtain ⟨c9, hc8⟩ : ∃ x : Bool, x = (((((((((r4 != 0) || (r8 != 0)) || (r12 != 0)) || (r3 != (l1.length : Int))) || (r7 != q1)) || (r11 != r3)) || ((r2.Data.length : Int) != r3)) || ((r6.Data.length : Int) != q1)) || ((r10.Data.length : Int) != (IntKind.i64.wrap (r3 - q1)))) := ⟨_, rfl⟩
   refine o_cutN 8 (J := fun tm H => S wm 202 tm H [(125, .bool c9), (0, v1), (3, .int .u64 to1), (11, .pointer (some ⟨b1, 0, none⟩)), (14, .pointer (some ⟨b2, 0, none⟩)), (17, .pointer (some ⟨b3, 0, none⟩))] [.box b3 [.bool r10.Char, v15, v16], .own (rI .i64) v15 r10.Shape, .own (rI .i64) v16 r10.Data, .box b2 [.bool r6.Char, v10, v11], .own (rI .i64) v10 r6.Shape, .own (rI .i64) v11 r6.Data, .box b1 [.bool r2.Char, v5, v6], .own (rI .i64) v5 r2.Shape, .own (rI .i64) v6 r2.Data, .fz (rI .i64) v1 l1] Fr) ?_ ?_
   ·rcases Bool.eq_false_or_eq_true ((((((((r4 != 0) || (r8 != 0)) || (r12 != 0)) || (r3 != (l1.length : Int))) || (r7 != q1)) || (r11 != r3)) || ((r2.Data.length : Int) != r3)) || ((r6.Data.length : Int) != q1)) with hg8 | hg8
    ·refine o_skip hS rfl rfl rfl hg8 ?_; clear hS; try clear tm
     intro tm hS
     refine o_skip hS rfl rfl rfl hg8 ?_; clear hS; try clear tm
     intro tm hS
     refine o_skip hS rfl rfl rfl hg8 ?_; clear hS; try clear tm
     intro tm hS
     refine o_skip hS rfl rfl rfl hg8 ?_; clear hS; try clear tm
     intro tm hS
     refine o_skip hS rfl rfl rfl hg8 ?_; clear hS; try clear tm
     intro tm hS
     refine o_skip hS rfl rfl rfl hg8 ?_; clear hS; try clear tm
     intro tm hS
     refine o_skip hS rfl rfl rfl hg8 ?_; clear hS; try clear tm
     intro tm hS
     refine o_pickT hS (.inl rfl) rfl rfl hg8 rfl ?_; clear hS; try clear tm
     intro tm hS
     have hc8 : c9 = true := hc8.trans (by rw [hg8]; first | rfl | simp)
     subst hc8
     exact o_nil (hS.keep (ka_cons rfl (ka_cons rfl (ka_cons rfl (ka_cons rfl (ka_cons rfl (ka_cons rfl ka_nil)))))) (fun hI => (hI.sub (sc (sc (sc (sc (sc (sc (sc (sc (sc (sc sn)))))))))))))
    ·refine o_pure hS (.inr ⟨_, _, _, _, rfl, rfl, rfl, hg8⟩) rfl rfl ?_; clear hS; try clear tm
     intro tm hS
     refine o_ld1 (k := 0) hS (.inr ⟨_, _, _, _, rfl, rfl, rfl, hg8⟩) rfl rfl rfl (.inl rfl) Fu22 rfl rfl ?_; clear hS; try clear tm
     intro tm hS
     refine o_len (k := 2) (r := (rI .i64)) hS (.inr ⟨_, _, _, _, rfl, rfl, rfl, hg8⟩) rfl rfl rfl (.inr (.inl rfl)) Fu22 rfl ?_; clear hS; try clear tm
     intro tm hS
     refine o_pure hS (.inr ⟨_, _, _, _, rfl, rfl, rfl, hg8⟩) rfl rfl ?_; clear hS; try clear tm
     intro tm hS
     refine o_pure hS (.inr ⟨_, _, _, _, rfl, rfl, rfl, hg8⟩) rfl rfl ?_; clear hS; try clear tm
     intro tm hS
     refine o_pure hS (.inr ⟨_, _, _, _, rfl, rfl, rfl, hg8⟩) rfl rfl ?_; clear hS; try clear tm
     intro tm hS
     refine o_pure hS (.inr ⟨_, _, _, _, rfl, rfl, rfl, hg8⟩) rfl rfl ?_; clear hS; try clear tm
     intro tm hS
     refine o_pickF hS (.inl rfl) rfl rfl hg8 rfl ?_; clear hS; try clear tm
     intro tm hS
     have hc8 : c9 = ((r10.Data.length : Int) != (IntKind.i64.wrap (r3 - q1))) := hc8.trans (by rw [hg8]; first | rfl | simp)
     subst hc8
     exact o_nil (hS.keep (ka_cons rfl (ka_cons rfl (ka_cons rfl (ka_cons rfl (ka_cons rfl (ka_cons rfl ka_nil)))))) (fun hI => (hI.sub (sc (sc (sc (sc (sc (sc (sc (sc (sc (sc sn)))))))))))))
   intro tm H hS
   subst hc8
   refine o_nil (hR _ _ ?_)
   clear hR R
   refine c_cond hS rfl (fun hc => ?_) (fun hc => ?_)
   ·replace h0 := iteT hc h0
    refine c_reg fun R hR => ?_
    refine o_pure hS (.inl rfl) rfl rfl ?_; clear hS; try clear tm
    intro tm hS
    refine o_nil (hR _ _ ?_)
    clear hR R
    refine wpC.ret ?_
    obtain rfl := Option.some.inj h0
    refine Exists.intro _ (And.intro (rs_tmp hS rfl rs_nil) ?_)
    have hI := hS.inv
    exact ⟨rfl, (hI.sub sn)⟩
   ·replace h0 := iteF hc h0
    refine wpC.skip ?_
    refine c_seqS ?_
    refine c_reg fun R hR => ?_
    refine o_pure hS (.inl rfl) rfl rfl ?_; clear hS; try clear tm
    intro tm hS
    refine o_nil (hR _ _ ?_)
    clear hR R
    obtain ⟨k2, hw2, h0⟩ := bindS h0
    refine wpC.block ?_
    refine c_loop (I := fun (s : Int) tm H => match (generalizing := false) s with | i2 => S wm 202 tm H [(0, v1), (3, .int .u64 to1), (11, .pointer (some ⟨b1, 0, none⟩)), (14, .pointer (some ⟨b2, 0, none⟩)), (17, .pointer (some ⟨b3, 0, none⟩)), (20, .int .i64 i2)] [.box b1 [.bool r2.Char, v5, v6], .box b2 [.bool r6.Char, v10, v11], .box b3 [.bool r10.Char, v15, v16], .fz (rI .i64) v1 l1, .own (rI .i64) v5 r2.Shape, .own (rI .i64) v6 r2.Data, .own (rI .i64) v10 r6.Shape, .own (rI .i64) v11 r6.Data, .own (rI .i64) v15 r10.Shape, .own (rI .i64) v16 r10.Data] Fr) hw2 (by change S wm 202 _ _ _ _ Fr; exact hS.keep (ka_cons rfl (ka_cons rfl (ka_cons rfl (ka_cons rfl (ka_cons rfl (ka_cons rfl ka_nil)))))) (fun hI => (((((((((((hI.pull 2 rfl).pull 2 rfl).pull 5 rfl).pull 5 rfl).pull 8 rfl).pull 8 rfl).pull 9 rfl).pull 7 rfl).pull 8 rfl).pull 9 rfl).take 10))) ?_
    clear hS
    intro i2 tm H c10 hS h3 hq3
    change S wm 202 tm H [(0, v1), (3, .int .u64 to1), (11, .pointer (some ⟨b1, 0, none⟩)), (14, .pointer (some ⟨b2, 0, none⟩)), (17, .pointer (some ⟨b3, 0, none⟩)), (20, .int .i64 i2)] [.box b1 [.bool r2.Char, v5, v6], .box b2 [.bool r6.Char, v10, v11], .box b3 [.bool r10.Char, v15, v16], .fz (rI .i64) v1 l1, .own (rI .i64) v5 r2.Shape, .own (rI .i64) v6 r2.Data, .own (rI .i64) v10 r6.Shape, .own (rI .i64) v11 r6.Data, .own (rI .i64) v15 r10.Shape, .own (rI .i64) v16 r10.Data] Fr at hS
    refine c_seqS ?_
    refine c_reg fun R hR => ?_
    refine o_pure hS (.inl rfl) rfl rfl ?_; clear hS; try clear tm
    intro tm hS
    refine o_pure hS (.inl rfl) rfl rfl ?_; clear hS; try clear tm
    intro tm hS
    refine o_len (k := 3) (r := (rI .i64)) hS (.inl rfl) rfl rfl rfl (.inl rfl) Fu22 rfl ?_; clear hS; try clear tm
    intro tm hS
    refine o_pure hS (.inl rfl) rfl rfl ?_; clear hS; try clear tm
    intro tm hS
    refine o_nil (hR _ _ ?_)
    clear hR R
    refine c_cond hS rfl (fun hc => ?_) (fun hc => ?_)
    ·replace h3 := iteT hc h3
     refine wpC.skip ?_
     refine c_seqS ?_
     refine wpC.block ?_
     refine c_reg fun R hR => ?_
     refine o_lit (r := (rI .i64)) (l := ([] : List Int)) hS (.inl rfl) rfl Fl22 rfl rfl rfl .nil rfl rfl ri_nil rfl ?_; clear hS; try clear tm H
     intro v17 tm H hS
     refine o_pure hS (.inl rfl) rfl rfl ?_; clear hS; try clear tm
     intro tm hS
     refine o_ld1 (k := 2) hS (.inl rfl) rfl rfl rfl (.inl rfl) Fu22 rfl rfl ?_; clear hS; try clear tm
     intro tm hS
     obtain ⟨l4, hx11, h3⟩ := bindS h3
     refine o_appL (k1 := 0) (k2 := 8) (r := (rI .i64)) hS (.inl rfl) rfl rfl rfl rfl rfl (.inr (.inl rfl)) rfl Fe22_22 hx11 ?_; clear hS; try clear tm H
     intro v18 tm H hS
     refine o_pure hS (.inl rfl) rfl rfl ?_; clear hS; try clear tm
     intro tm hS
     refine o_ld1 (k := 3) hS (.inl rfl) rfl rfl rfl (.inl rfl) Fu22 rfl rfl ?_; clear hS; try clear tm
     intro tm hS
     obtain ⟨l5, hx12, h3⟩ := bindS h3
     refine o_app (k1 := 0) (k2 := 10) (r := (rI .i64)) hS (.inl rfl) rfl rfl rfl rfl rfl (.inr (.inl rfl)) rfl Fe22_22 rfl hx12 ?_; clear hS; try clear tm H
     intro v19 tm H hS
     refine o_pure hS (.inl rfl) rfl rfl ?_; clear hS; try clear tm
     intro tm hS
     refine o_nil (hR _ _ ?_)
     clear hR R
     refine c_seqS ?_
     refine c_reg fun R hR => ?_
     refine o_pure hS (.inl rfl) rfl rfl ?_; clear hS; try clear tm
     intro tm hS
     refine o_ld1 (k := 1) hS (.inl rfl) rfl rfl rfl (.inl rfl) Fu22 rfl rfl ?_; clear hS; try clear tm
     intro tm hS
     refine o_pure hS (.inl rfl) rfl rfl ?_; clear hS; try clear tm
     intro tm hS
     obtain ⟨y2, hx13, h3⟩ := bindS h3
     refine o_ixA (k := 6) (r := (rI .i64)) hS (.inl rfl) rfl rfl rfl rfl (.inr (.inl rfl)) Fu22 Fs2 hx13 ?_; clear hS; try clear tm
     intro tm hS
     refine o_ldF (r := (rI .i64)) (k := 6) hS (.inl rfl) rfl rfl rfl (.inr (.inl rfl)) hx13 Fu2 rfl (flat_I _) rfl ?_; clear hS; try clear tm
     intro tm hS
     refine o_pure hS (.inl rfl) rfl rfl ?_; clear hS; try clear tm
     intro tm hS
     refine o_pure hS (.inl rfl) rfl rfl ?_; clear hS; try clear tm
     intro tm hS
     obtain ⟨c11, hc9, h3⟩ := bindS h3
     refine o_cutN 11 (J := fun tm H => S wm 202 tm H [(156, .bool c11), (0, v1), (3, .int .u64 to1), (11, .pointer (some ⟨b1, 0, none⟩)), (14, .pointer (some ⟨b2, 0, none⟩)), (17, .pointer (some ⟨b3, 0, none⟩)), (20, .int .i64 i2), (21, v19)] [.own (rI .i64) v19 l5, .box b1 [.bool r2.Char, v5, v6], .box b2 [.bool r6.Char, v10, v11], .box b3 [.bool r10.Char, v15, v16], .fz (rI .i64) v1 l1, .own (rI .i64) v5 r2.Shape, .own (rI .i64) v6 r2.Data, .own (rI .i64) v10 r6.Shape, .own (rI .i64) v11 r6.Data, .own (rI .i64) v15 r10.Shape, .own (rI .i64) v16 r10.Data] Fr) ?_ ?_
     ·rcases Bool.eq_false_or_eq_true (decide (y2 < 1)) with hg9 | hg9
      ·replace hc9 := iteT hg9 hc9
       refine o_skip hS rfl rfl rfl hg9 ?_; clear hS; try clear tm
       intro tm hS
       refine o_skip hS rfl rfl rfl hg9 ?_; clear hS; try clear tm
       intro tm hS
       refine o_skip hS rfl rfl rfl hg9 ?_; clear hS; try clear tm
       intro tm hS
       refine o_skip hS rfl rfl rfl hg9 ?_; clear hS; try clear tm
       intro tm hS
       refine o_skip hS rfl rfl rfl hg9 ?_; clear hS; try clear tm
       intro tm hS
       refine o_skip hS rfl rfl rfl hg9 ?_; clear hS; try clear tm
       intro tm hS
       refine o_skip hS rfl rfl rfl hg9 ?_; clear hS; try clear tm
       intro tm hS
       refine o_skip hS rfl rfl rfl hg9 ?_; clear hS; try clear tm
       intro tm hS
       refine o_skip hS rfl rfl rfl hg9 ?_; clear hS; try clear tm
       intro tm hS
       refine o_skip hS rfl rfl rfl hg9 ?_; clear hS; try clear tm
       intro tm hS
       refine o_pickT hS (.inl rfl) rfl rfl hg9 rfl ?_; clear hS; try clear tm
       intro tm hS
       obtain rfl := Option.some.inj hc9
       exact o_nil (hS.keep (ka_cons rfl (ka_cons rfl (ka_cons rfl (ka_cons rfl (ka_cons rfl (ka_cons rfl (ka_cons rfl (ka_cons rfl ka_nil)))))))) (fun hI => (hI.sub (sc (sc (sc (sc (sc (sc (sc (sc (sc (sc (sc sn))))))))))))))
      ·replace hc9 := iteF hg9 hc9
       refine o_pure hS (.inr ⟨_, _, _, _, rfl, rfl, rfl, hg9⟩) rfl rfl ?_; clear hS; try clear tm
       intro tm hS
       refine o_ld1 (k := 1) hS (.inr ⟨_, _, _, _, rfl, rfl, rfl, hg9⟩) rfl rfl rfl (.inl rfl) Fu22 rfl rfl ?_; clear hS; try clear tm
       intro tm hS
       refine o_pure hS (.inr ⟨_, _, _, _, rfl, rfl, rfl, hg9⟩) rfl rfl ?_; clear hS; try clear tm
       intro tm hS
       obtain ⟨y3, hx14, hc9⟩ := bindS hc9
       refine o_ixA (k := 6) (r := (rI .i64)) hS (.inr ⟨_, _, _, _, rfl, rfl, rfl, hg9⟩) rfl rfl rfl rfl (.inr (.inl rfl)) Fu22 Fs2 hx14 ?_; clear hS; try clear tm
       intro tm hS
       refine o_ldF (r := (rI .i64)) (k := 6) hS (.inr ⟨_, _, _, _, rfl, rfl, rfl, hg9⟩) rfl rfl rfl (.inr (.inl rfl)) hx14 Fu2 rfl (flat_I _) rfl ?_; clear hS; try clear tm
       intro tm hS
       refine o_pure hS (.inr ⟨_, _, _, _, rfl, rfl, rfl, hg9⟩) rfl rfl ?_; clear hS; try clear tm
       intro tm hS
       refine o_pure hS (.inr ⟨_, _, _, _, rfl, rfl, rfl, hg9⟩) rfl rfl ?_; clear hS; try clear tm
       intro tm hS
       obtain ⟨y4, hx15, hc9⟩ := bindS hc9
       refine o_ixA (k := 4) (r := (rI .i64)) hS (.inr ⟨_, _, _, _, rfl, rfl, rfl, hg9⟩) rfl rfl rfl rfl (.inl rfl) Fu22 Fs2 hx15 ?_; clear hS; try clear tm
       intro tm hS
       refine o_ldF (r := (rI .i64)) (k := 4) hS (.inr ⟨_, _, _, _, rfl, rfl, rfl, hg9⟩) rfl rfl rfl (.inl rfl) hx15 Fu2 rfl (flat_I _) rfl ?_; clear hS; try clear tm
       intro tm hS
       refine o_pure hS (.inr ⟨_, _, _, _, rfl, rfl, rfl, hg9⟩) rfl rfl ?_; clear hS; try clear tm
       intro tm hS
       refine o_pickF hS (.inl rfl) rfl rfl hg9 rfl ?_; clear hS; try clear tm
       intro tm hS
       obtain rfl := Option.some.inj hc9
       exact o_nil (hS.keep (ka_cons rfl (ka_cons rfl (ka_cons rfl (ka_cons rfl (ka_cons rfl (ka_cons rfl (ka_cons rfl (ka_cons rfl ka_nil)))))))) (fun hI => (hI.sub (sc (sc (sc (sc (sc (sc (sc (sc (sc (sc (sc sn))))))))))))))
     intro tm H hS
     refine o_pure hS (.inl rfl) rfl rfl ?_; clear hS; try clear tm
     intro tm hS
     obtain ⟨c12, hc10, h3⟩ := bindS h3
     refine o_cutN 11 (J := fun tm H => S wm 202 tm H [(168, .bool c12), (0, v1), (3, .int .u64 to1), (11, .pointer (some ⟨b1, 0, none⟩)), (14, .pointer (some ⟨b2, 0, none⟩)), (17, .pointer (some ⟨b3, 0, none⟩)), (20, .int .i64 i2)] [.box b1 [.bool r2.Char, v5, v6], .box b2 [.bool r6.Char, v10, v11], .box b3 [.bool r10.Char, v15, v16], .fz (rI .i64) v1 l1, .own (rI .i64) v5 r2.Shape, .own (rI .i64) v6 r2.Data, .own (rI .i64) v10 r6.Shape, .own (rI .i64) v11 r6.Data, .own (rI .i64) v15 r10.Shape, .own (rI .i64) v16 r10.Data] Fr) ?_ ?_
     ·rcases Bool.eq_false_or_eq_true c11 with hg10 | hg10
      ·replace hc10 := iteT hg10 hc10
       refine o_skip hS rfl rfl rfl hg10 ?_; clear hS; try clear tm
       intro tm hS
       refine o_skip hS rfl rfl rfl hg10 ?_; clear hS; try clear tm
       intro tm hS
       refine o_skip hS rfl rfl rfl hg10 ?_; clear hS; try clear tm
       intro tm hS
       refine o_skip hS rfl rfl rfl hg10 ?_; clear hS; try clear tm
       intro tm hS
       refine o_skip hS rfl rfl rfl hg10 ?_; clear hS; try clear tm
       intro tm hS
       refine o_skip hS rfl rfl rfl hg10 ?_; clear hS; try clear tm
       intro tm hS
       refine o_skip hS rfl rfl rfl hg10 ?_; clear hS; try clear tm
       intro tm hS
       refine o_skip hS rfl rfl rfl hg10 ?_; clear hS; try clear tm
       intro tm hS
       refine o_skip hS rfl rfl rfl hg10 ?_; clear hS; try clear tm
       intro tm hS
       refine o_skip hS rfl rfl rfl hg10 ?_; clear hS; try clear tm
       intro tm hS
       refine o_pickT hS (.inl rfl) rfl rfl hg10 rfl ?_; clear hS; try clear tm
       intro tm hS
       obtain rfl := Option.some.inj hc10
       exact o_nil (hS.keep (ka_cons rfl (ka_cons rfl (ka_cons rfl (ka_cons rfl (ka_cons rfl (ka_cons rfl (ka_cons rfl ka_nil))))))) (fun hI => (hI.sub (sd (sc (sc (sc (sc (sc (sc (sc (sc (sc (sc sn))))))))))))))
      ·replace hc10 := iteF hg10 hc10
       refine o_pure hS (.inr ⟨_, _, _, _, rfl, rfl, rfl, hg10⟩) rfl rfl ?_; clear hS; try clear tm
       intro tm hS
       refine o_pure hS (.inr ⟨_, _, _, _, rfl, rfl, rfl, hg10⟩) rfl rfl ?_; clear hS; try clear tm
       intro tm hS
       obtain ⟨y5, hx16, hc10⟩ := bindS hc10
       refine o_ixA (k := 0) (r := (rI .i64)) hS (.inr ⟨_, _, _, _, rfl, rfl, rfl, hg10⟩) rfl rfl rfl rfl (.inr (.inl rfl)) Fu22 Fs2 hx16 ?_; clear hS; try clear tm
       intro tm hS
       refine o_ldF (r := (rI .i64)) (k := 0) hS (.inr ⟨_, _, _, _, rfl, rfl, rfl, hg10⟩) rfl rfl rfl (.inr (.inl rfl)) hx16 Fu2 rfl (flat_I _) rfl ?_; clear hS; try clear tm
       intro tm hS
       refine o_pure hS (.inr ⟨_, _, _, _, rfl, rfl, rfl, hg10⟩) rfl rfl ?_; clear hS; try clear tm
       intro tm hS
       refine o_ld1 (k := 1) hS (.inr ⟨_, _, _, _, rfl, rfl, rfl, hg10⟩) rfl rfl rfl (.inl rfl) Fu22 rfl rfl ?_; clear hS; try clear tm
       intro tm hS
       refine o_pure hS (.inr ⟨_, _, _, _, rfl, rfl, rfl, hg10⟩) rfl rfl ?_; clear hS; try clear tm
       intro tm hS
       obtain ⟨y6, hx17, hc10⟩ := bindS hc10
       refine o_ixA (k := 6) (r := (rI .i64)) hS (.inr ⟨_, _, _, _, rfl, rfl, rfl, hg10⟩) rfl rfl rfl rfl (.inr (.inl rfl)) Fu22 Fs2 hx17 ?_; clear hS; try clear tm
       intro tm hS
       refine o_ldF (r := (rI .i64)) (k := 6) hS (.inr ⟨_, _, _, _, rfl, rfl, rfl, hg10⟩) rfl rfl rfl (.inr (.inl rfl)) hx17 Fu2 rfl (flat_I _) rfl ?_; clear hS; try clear tm
       intro tm hS
       refine o_pure hS (.inr ⟨_, _, _, _, rfl, rfl, rfl, hg10⟩) rfl rfl ?_; clear hS; try clear tm
       intro tm hS
       refine o_pickF hS (.inl rfl) rfl rfl hg10 rfl ?_; clear hS; try clear tm
       intro tm hS
       obtain rfl := Option.some.inj hc10
       exact o_nil (hS.keep (ka_cons rfl (ka_cons rfl (ka_cons rfl (ka_cons rfl (ka_cons rfl (ka_cons rfl (ka_cons rfl ka_nil))))))) (fun hI => (hI.sub (sd (sc (sc (sc (sc (sc (sc (sc (sc (sc (sc sn))))))))))))))
     intro tm H hS
     refine o_nil (hR _ _ ?_)
     clear hR R
     refine c_cond hS rfl (fun hc => ?_) (fun hc => ?_)
     ·replace h3 := iteT hc h3
      refine c_reg fun R hR => ?_
      refine o_pure hS (.inl rfl) rfl rfl ?_; clear hS; try clear tm
      intro tm hS
      refine o_nil (hR _ _ ?_)
      clear hR R
      refine wpC.ret ?_
      obtain rfl := Option.some.inj h3
      obtain rfl := hq3 _ rfl
      refine And.intro rfl ?_
      obtain rfl := leave h0
      refine Exists.intro _ (And.intro (rs_tmp hS rfl rs_nil) ?_)
      have hI := hS.inv
      exact ⟨rfl, (hI.sub sn)⟩
     ·replace h3 := iteF hc h3
      refine wpC.skip ?_
      refine c_reg fun R hR => ?_
      refine o_pure hS (.inl rfl) rfl rfl ?_; clear hS; try clear tm
      intro tm hS
      refine o_pure hS (.inl rfl) rfl rfl ?_; clear hS; try clear tm
      intro tm hS
      refine o_pure hS (.inl rfl) rfl rfl ?_; clear hS; try clear tm
      intro tm hS
      obtain ⟨y7, hx18, h3⟩ := bindS h3
      refine o_ixA (k := 3) (r := (rI .i64)) hS (.inl rfl) rfl rfl rfl rfl (.inl rfl) Fu22 Fs2 hx18 ?_; clear hS; try clear tm
      intro tm hS
      refine o_ldF (r := (rI .i64)) (k := 3) hS (.inl rfl) rfl rfl rfl (.inl rfl) hx18 Fu2 rfl (flat_I _) rfl ?_; clear hS; try clear tm
      intro tm hS
      refine o_pure hS (.inl rfl) rfl rfl ?_; clear hS; try clear tm
      intro tm hS
      obtain ⟨q2, hx19, h3⟩ := bindS h3
      refine o_rem hS (.inl rfl) rfl rfl rfl hx19 ?_; clear hS; try clear tm
      intro tm hS
      refine o_pure hS (.inl rfl) rfl rfl ?_; clear hS; try clear tm
      intro tm hS
      refine o_pure hS (.inl rfl) rfl rfl ?_; clear hS; try clear tm
      intro tm hS
      refine o_pure hS (.inl rfl) rfl rfl ?_; clear hS; try clear tm
      intro tm hS
      refine o_nil (hR _ _ ?_)
      clear hR R
      refine c_reg fun R hR => ?_
      refine o_pure hS (.inl rfl) rfl rfl ?_; clear hS; try clear tm
      intro tm hS
      refine o_pure hS (.inl rfl) rfl rfl ?_; clear hS; try clear tm
      intro tm hS
      obtain ⟨y8, hx20, h3⟩ := bindS h3
      refine o_ixA (k := 3) (r := (rI .i64)) hS (.inl rfl) rfl rfl rfl rfl (.inl rfl) Fu22 Fs2 hx20 ?_; clear hS; try clear tm
      intro tm hS
      refine o_ldF (r := (rI .i64)) (k := 3) hS (.inl rfl) rfl rfl rfl (.inl rfl) hx20 Fu2 rfl (flat_I _) rfl ?_; clear hS; try clear tm
      intro tm hS
      obtain ⟨r13, hx21, h3⟩ := bindS h3
      refine o_call hS (.inl rfl) rfl (fun wm' hw1 hw2 => wk13  y8   (hS.sel hw2) hx21) (fun wm' res H hw' hp => ?_)
      obtain ⟨v20, v21, hres, hI⟩ := hp
      replace hres := hres.symm; subst hres
      replace hS : S wm 202 _ H ((183, .agg #[.bool r13.Char, v20, v21]) :: _) ([.own (rI .i64) v20 r13.Shape, .own (rI .i64) v21 r13.Data] ++ _) Fr := hS.after rfl hw' hI
      clear hI hw'
      refine o_pure hS (.inl rfl) rfl rfl ?_; clear hS; try clear tm
      intro tm hS
      refine o_pure hS (.inl rfl) rfl rfl ?_; clear hS; try clear tm
      intro tm hS
      refine o_pure hS (.inl rfl) rfl rfl ?_; clear hS; try clear tm
      intro tm hS
      refine o_lit (r := (rI .u64)) (l := [(IntKind.u64.wrap ((IntKind.u64.wrap (IntKind.i64.wrap ((IntKind.i64.wrap q2) + 1))) - 1))]) hS (.inl rfl) rfl Fl30 rfl rfl rfl (.cons rfl .nil) rfl rfl (ri_1 (rd_flat fun _ => rfl) ri_nil) rfl ?_; clear hS; try clear tm H
      intro v22 tm H hS
      replace hS := hS.frz (k := 1) rfl
      replace hS := hS.frz (k := 2) rfl
      replace hS := hS.litFrz (k := 0) rfl
      obtain ⟨⟨r14, r15, r16⟩, hx22, h3⟩ := bindS h3
      refine o_call hS (.inl rfl) rfl (fun wm' hw1 hw2 => wk12  r13 ([(IntKind.u64.wrap ((IntKind.u64.wrap (IntKind.i64.wrap ((IntKind.i64.wrap q2) + 1))) - 1))]) 0  v20 v21 v22 ((((hS.sel hw2).ad 0 rfl).ad 2 rfl).ad 1 rfl) hx22) (fun wm' res H hw' hp => ?_)
      obtain ⟨v23, v24, hres, hI⟩ := hp
      replace hres := hres.symm; subst hres
      replace hS : S wm 202 _ H ((188, .tuple #[.agg #[.bool r14.Char, v23, v24], .int .i64 r15, .int .i64 r16]) :: _) ([.own (rI .i64) v23 r14.Shape, .own (rI .i64) v24 r14.Data] ++ _) Fr := hS.after rfl hw' hI
      clear hI hw'
      refine o_pure hS (.inl rfl) rfl rfl ?_; clear hS; try clear tm
      intro tm hS
      refine o_pure hS (.inl rfl) rfl rfl ?_; clear hS; try clear tm
      intro tm hS
      refine o_pure hS (.inl rfl) rfl rfl ?_; clear hS; try clear tm
      intro tm hS
      refine o_pure hS (.inl rfl) rfl rfl ?_; clear hS; try clear tm
      intro tm hS
      refine o_alloc hS (.inl rfl) rfl Fz25 (by decide) ?_; clear hS; try clear tm H
      intro b4 tm H hS
      refine o_st (k := 0) hS (.inl rfl) rfl rfl rfl Fs25 rfl rfl (all_cons rfl (all_cons (hS.one (k := 1) rfl (.inr (.inl rfl))) (all_cons (hS.one (k := 2) rfl (.inr (.inl rfl))) all_nil))) rfl ?_; clear hS; try clear H
      intro H hS
      refine o_pure hS (.inl rfl) rfl rfl ?_; clear hS; try clear tm
      intro tm hS
      refine o_pure hS (.inl rfl) rfl rfl ?_; clear hS; try clear tm
      intro tm hS
      refine o_nil (hR _ _ ?_)
      clear hR R
      refine c_reg fun R hR => ?_
      refine o_pure hS (.inl rfl) rfl rfl ?_; clear hS; try clear tm
      intro tm hS
      refine o_pure hS (.inl rfl) rfl rfl ?_; clear hS; try clear tm
      intro tm hS
      refine o_pure hS (.inl rfl) rfl rfl ?_; clear hS; try clear tm
      intro tm hS
      obtain ⟨c13, hc11, h3⟩ := bindS h3
      refine o_cutN 6 (J := fun tm H => S wm 202 tm H [(200, .bool c13), (0, v1), (3, .int .u64 to1), (11, .pointer (some ⟨b1, 0, none⟩)), (14, .pointer (some ⟨b2, 0, none⟩)), (17, .pointer (some ⟨b3, 0, none⟩)), (20, .int .i64 i2)] [.box b1 [.bool r2.Char, v5, v6], .box b2 [.bool r6.Char, v10, v11], .box b3 [.bool r10.Char, v15, v16], .fz (rI .i64) v1 l1, .own (rI .i64) v5 r2.Shape, .own (rI .i64) v6 r2.Data, .own (rI .i64) v10 r6.Shape, .own (rI .i64) v11 r6.Data, .own (rI .i64) v15 r10.Shape, .own (rI .i64) v16 r10.Data] Fr) ?_ ?_
      ·rcases Bool.eq_false_or_eq_true (r16 != 0) with hg11 | hg11
       ·replace hc11 := iteT hg11 hc11
        refine o_skip hS rfl rfl rfl hg11 ?_; clear hS; try clear tm
        intro tm hS
        refine o_skip hS rfl rfl rfl hg11 ?_; clear hS; try clear tm
        intro tm hS
        refine o_skip hS rfl rfl rfl hg11 ?_; clear hS; try clear tm
        intro tm hS
        refine o_skip hS rfl rfl rfl hg11 ?_; clear hS; try clear tm
        intro tm hS
        refine o_skip hS rfl rfl rfl hg11 ?_; clear hS; try clear tm
        intro tm hS
        refine o_pickT hS (.inl rfl) rfl rfl hg11 rfl ?_; clear hS; try clear tm
        intro tm hS
        obtain rfl := Option.some.inj hc11
        exact o_nil (hS.keep (ka_cons rfl (ka_cons rfl (ka_cons rfl (ka_cons rfl (ka_cons rfl (ka_cons rfl (ka_cons rfl ka_nil))))))) (fun hI => (hI.sub (sd (sd (sd (sd (sd (sd (sc (sc (sc (sc (sc (sc (sc (sc (sc (sc sn)))))))))))))))))))
       ·replace hc11 := iteF hg11 hc11
        refine o_ldA (k := 0) hS (.inr ⟨_, _, _, _, rfl, rfl, rfl, hg11⟩) rfl rfl rfl (.inl rfl) Fu25 rfl Fs25 rfl ?_; clear hS; try clear tm
        intro tm hS
        refine o_pure hS (.inr ⟨_, _, _, _, rfl, rfl, rfl, hg11⟩) rfl rfl ?_; clear hS; try clear tm
        intro tm hS
        obtain ⟨r17, hx23, hc11⟩ := bindS hc11
        refine o_call hS (.inr ⟨_, _, _, _, rfl, rfl, rfl, hg11⟩) rfl (fun wm' hw1 hw2 => wk13  (IntKind.i64.wrap ((IntKind.i64.wrap q2) + 1))   (hS.sel hw2) hx23) (fun wm' res H hw' hp => ?_)
        obtain ⟨v25, v26, hres, hI⟩ := hp
        replace hres := hres.symm; subst hres
        replace hS : S wm 202 _ H ((197, .agg #[.bool r17.Char, v25, v26]) :: _) ([.own (rI .i64) v25 r17.Shape, .own (rI .i64) v26 r17.Data] ++ _) Fr := hS.after rfl hw' hI
        clear hI hw'
        obtain ⟨r18, hx24, hc11⟩ := bindS hc11
        refine o_call (Pc := fun _ res H => res = .bool r18 ∧ Kn wm H [.own (rI .i64) v25 r17.Shape, .own (rI .i64) v26 r17.Data, .box b4 [.bool r14.Char, v23, v24], .own (rI .i64) v23 r14.Shape, .own (rI .i64) v24 r14.Data, .fz (rI .u64) v22 ([(IntKind.u64.wrap ((IntKind.u64.wrap (IntKind.i64.wrap ((IntKind.i64.wrap q2) + 1))) - 1))]), .fz (rI .i64) v20 r13.Shape, .fz (rI .i64) v21 r13.Data, .box b1 [.bool r2.Char, v5, v6], .box b2 [.bool r6.Char, v10, v11], .box b3 [.bool r10.Char, v15, v16], .fz (rI .i64) v1 l1, .own (rI .i64) v5 r2.Shape, .own (rI .i64) v6 r2.Data, .own (rI .i64) v10 r6.Shape, .own (rI .i64) v11 r6.Data, .own (rI .i64) v15 r10.Shape, .own (rI .i64) v16 r10.Data] Fr) hS (.inr ⟨_, _, _, _, rfl, rfl, rfl, hg11⟩) rfl (fun wm' hw1 hw2 => by
         obtain ⟨F2, k1, k2⟩ := hS.inv.lend (La := [.fz (rI .i64) v23 r14.Shape, .fz (rI .i64) v24 r14.Data, .fz (rI .i64) v25 r17.Shape, .fz (rI .i64) v26 r17.Data]) (List.forall_mem_cons.mpr ⟨(.inr ⟨_, _, _, _, rfl, .inl (List.mem_of_getElem? (i := 3) rfl)⟩), (List.forall_mem_cons.mpr ⟨(.inr ⟨_, _, _, _, rfl, .inl (List.mem_of_getElem? (i := 4) rfl)⟩), (List.forall_mem_cons.mpr ⟨(.inr ⟨_, _, _, _, rfl, .inl (List.mem_of_getElem? (i := 0) rfl)⟩), (List.forall_mem_cons.mpr ⟨(.inr ⟨_, _, _, _, rfl, .inl (List.mem_of_getElem? (i := 1) rfl)⟩), (fun _ h => by cases h)⟩)⟩)⟩)⟩) hw1 hw2
         exact (wk24  r14 r17 v23 v24 v25 v26 k1 hx24).mono fun res H2 ⟨q1, q2⟩ => ⟨q1, k2 _ q2⟩) (fun wm' res H hw' hp => ?_)
        obtain ⟨hres, hI⟩ := hp
        replace hres := hres.symm; subst hres
        replace hS : S wm 202 _ H ((198, .bool r18) :: _) [.own (rI .i64) v25 r17.Shape, .own (rI .i64) v26 r17.Data, .box b4 [.bool r14.Char, v23, v24], .own (rI .i64) v23 r14.Shape, .own (rI .i64) v24 r14.Data, .fz (rI .u64) v22 ([(IntKind.u64.wrap ((IntKind.u64.wrap (IntKind.i64.wrap ((IntKind.i64.wrap q2) + 1))) - 1))]), .fz (rI .i64) v20 r13.Shape, .fz (rI .i64) v21 r13.Data, .box b1 [.bool r2.Char, v5, v6], .box b2 [.bool r6.Char, v10, v11], .box b3 [.bool r10.Char, v15, v16], .fz (rI .i64) v1 l1, .own (rI .i64) v5 r2.Shape, .own (rI .i64) v6 r2.Data, .own (rI .i64) v10 r6.Shape, .own (rI .i64) v11 r6.Data, .own (rI .i64) v15 r10.Shape, .own (rI .i64) v16 r10.Data] Fr := (hS.put rfl _).withK hI
        clear hI hw'
        refine o_pure hS (.inr ⟨_, _, _, _, rfl, rfl, rfl, hg11⟩) rfl rfl ?_; clear hS; try clear tm
        intro tm hS
        refine o_pickF hS (.inl rfl) rfl rfl hg11 rfl ?_; clear hS; try clear tm
        intro tm hS
        obtain rfl := Option.some.inj hc11
        exact o_nil (hS.keep (ka_cons rfl (ka_cons rfl (ka_cons rfl (ka_cons rfl (ka_cons rfl (ka_cons rfl (ka_cons rfl ka_nil))))))) (fun hI => (hI.sub (sd (sd (sd (sd (sd (sd (sd (sd (sc (sc (sc (sc (sc (sc (sc (sc (sc (sc sn)))))))))))))))))))))
      intro tm H hS
      refine o_nil (hR _ _ ?_)
      clear hR R
      refine c_cond hS rfl (fun hc => ?_) (fun hc => ?_)
      ·replace h3 := iteT hc h3
       refine c_reg fun R hR => ?_
       refine o_pure hS (.inl rfl) rfl rfl ?_; clear hS; try clear tm
       intro tm hS
       refine o_nil (hR _ _ ?_)
       clear hR R
       refine wpC.ret ?_
       obtain rfl := Option.some.inj h3
       obtain rfl := hq3 _ rfl
       refine And.intro rfl ?_
       obtain rfl := leave h0
       refine Exists.intro _ (And.intro (rs_tmp hS rfl rs_nil) ?_)
       have hI := hS.inv
       exact ⟨rfl, (hI.sub sn)⟩
      ·replace h3 := iteF hc h3
       refine wpC.skip ?_
       refine c_reg1 fun R hR => ?_
       refine o_pure hS (.inl rfl) rfl rfl ?_; clear hS; try clear tm
       intro tm hS
       refine o_pure hS (.inl rfl) rfl rfl ?_; clear hS; try clear tm
       intro tm hS
       refine o_pure hS (.inl rfl) rfl rfl ?_; clear hS; try clear tm
       intro tm hS
       refine o_nil (hR _ _ ?_)
       clear hR R
       obtain rfl := Option.some.inj h3
       refine ⟨_, rfl, ?_⟩
       change S wm 202 _ _ _ _ Fr; exact hS.keep (ka_cons rfl (ka_cons rfl (ka_cons rfl (ka_cons rfl (ka_cons rfl (ka_cons rfl ka_nil)))))) (fun hI => (hI.sub (sc (sc (sc (sc (sc (sc (sc (sc (sc (sc sn))))))))))))
    ·replace h3 := iteF hc h3
     refine wpC.exit ?_
     obtain rfl := Option.some.inj h3
     obtain rfl := hq3 _ rfl
     refine And.intro rfl (blk_eq ?_)
     replace h0 := joinN h0
     refine c_reg fun R hR => ?_
     refine o_call hS (.inl rfl) rfl (fun wm' hw1 hw2 => wpF.told ho19 (Q := fun v H' => v = .bool true ∧ H' = H) ⟨rfl, rfl⟩) (fun wm' res H hw' hp => ?_)
     obtain ⟨rfl, rfl⟩ := hp
     replace hS := hS.put (d := 201) rfl (.bool true)
     clear hw'
     refine o_pure hS (.inl rfl) rfl rfl ?_; clear hS; try clear tm
     intro tm hS
     refine o_nil (hR _ _ ?_)
     clear hR R
     refine wpC.ret ?_
     obtain rfl := Option.some.inj h0
     refine Exists.intro _ (And.intro (rs_tmp hS rfl rs_nil) ?_)
     have hI := hS.inv
     exact ⟨rfl, (hI.sub sn)⟩
end Go.Proofs.Ytpkfklfakegbjaa.randRolls
