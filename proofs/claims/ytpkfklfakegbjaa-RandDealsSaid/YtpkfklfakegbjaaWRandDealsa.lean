/- RandDeals: walks of the code: the run of each function comes to what its plain function says. -/
import Derived.Test.YtpkfklfakegbjaaMRandDeals
import Derived.Test.YtpkfklfakegbjaaProg
set_option linter.unusedVariables false
set_option linter.unusedSimpArgs false
set_option maxRecDepth 100000
open Go Go.Am Go.Proofs
namespace Go.Proofs.Ytpkfklfakegbjaa.randDeals
variable {ora : FuncId → Bool}
theorem Fu30 : Try.prog.underlying 30 = some (.slice 44) := by kernel_rfl
theorem Fs44 : sizeOf' Try.prog 44 = some 1 := by kernel_rfl
theorem Fu44 : Try.prog.underlying 44 = some (.int .u64) := by kernel_rfl
theorem Fl30 : LitOk Try.prog 30 1 44 ((zeroOf Try.prog 44).getD undef) := ⟨by kernel_rfl, by kernel_rfl, by kernel_rfl, by kernel_rfl, by kernel_rfl, by decide⟩
theorem Fe30_30 : ElemOk Try.prog 30 30 1 8 44 44 ((Try.prog.info? 44).getD default) (((Try.prog.info? 44).getD default).zero.getD undef) := ⟨by kernel_rfl, by kernel_rfl, by kernel_rfl, by kernel_rfl, by kernel_rfl, by kernel_rfl, by kernel_rfl, by decide, by kernel_rfl, by decide⟩
theorem Fz25 : zeroOf Try.prog 25 = some ((zeroOf Try.prog 25).getD undef) ∧ constOk ((zeroOf Try.prog 25).getD undef) = true ∧ ((zeroOf Try.prog 25).getD undef).cells.toList = [.bool false, (.slice none 0 0), (.slice none 0 0)] := ⟨by kernel_rfl, by kernel_rfl, by kernel_rfl⟩
theorem Fl22 : LitOk Try.prog 22 1 2 ((zeroOf Try.prog 2).getD undef) := ⟨by kernel_rfl, by kernel_rfl, by kernel_rfl, by kernel_rfl, by kernel_rfl, by decide⟩
theorem Fb25 : BuildOk Try.prog 25 [(0, 1), (1, 1), (2, 1)] [.bool false, (.slice none 0 0), (.slice none 0 0)] (match Try.prog.underlying 25 with | some (.struct f) => f | _ => #[]) ((zeroOf Try.prog 25).getD undef) := ⟨by kernel_rfl, by kernel_rfl, by kernel_rfl, by kernel_rfl, by kernel_rfl⟩
theorem Fs25 : sizeOf' Try.prog 25 = some 3 := by kernel_rfl
theorem Fu25 : Try.prog.underlying 25 = some ((Try.prog.underlying 25).getD .bool) := by kernel_rfl
theorem Fu4 : Try.prog.underlying 4 = some .bool := by kernel_rfl
theorem Fu22 : Try.prog.underlying 22 = some (.slice 2) := by kernel_rfl
theorem Fs2 : sizeOf' Try.prog 2 = some 1 := by kernel_rfl
theorem Fu2 : Try.prog.underlying 2 = some (.int .i64) := by kernel_rfl
theorem Fu23 : Try.prog.underlying 23 = some (.slice 3) := by kernel_rfl
theorem Fs3 : sizeOf' Try.prog 3 = some 1 := by kernel_rfl
theorem Fu3 : Try.prog.underlying 3 = some (.int .i64) := by kernel_rfl
theorem Fe22_22 : ElemOk Try.prog 22 22 1 8 2 2 ((Try.prog.info? 2).getD default) (((Try.prog.info? 2).getD default).zero.getD undef) := ⟨by kernel_rfl, by kernel_rfl, by kernel_rfl, by kernel_rfl, by kernel_rfl, by kernel_rfl, by kernel_rfl, by decide, by kernel_rfl, by decide⟩
theorem Fl23 : LitOk Try.prog 23 1 3 ((zeroOf Try.prog 3).getD undef) := ⟨by kernel_rfl, by kernel_rfl, by kernel_rfl, by kernel_rfl, by kernel_rfl, by decide⟩
theorem Fm45 : MkOk Try.prog 45 1 4 ((Try.prog.info? 4).getD default) (((Try.prog.info? 4).getD default).zero.getD undef) (.bool false) := ⟨by kernel_rfl, by kernel_rfl, by kernel_rfl, by kernel_rfl, by kernel_rfl, by kernel_rfl, by kernel_rfl⟩
theorem Fu45 : Try.prog.underlying 45 = some (.slice 4) := by kernel_rfl
theorem Fs4 : sizeOf' Try.prog 4 = some 1 := by kernel_rfl
theorem wk13 {wm : Nat} {H : AHeap} {Fr : List Ent}  (n1 : Int)   (hI : Kn wm H [] Fr) {r : Val} (h0 : M.anamnesislaw13_one n1 = some r) :
  wpF Try.prog ora wm 13 [.int .i64 n1] H (fun res H => ∃ v2 v3, res = .agg #[.bool r.Char, v2, v3] ∧ Kn wm H [.own (rI .i64) v2 r.Shape, .own (rI .i64) v3 r.Data] Fr) := by
 unfold M.anamnesislaw13_one at h0
 refine f_enter (n := 6) Try.func13 rfl (by simp) hI rfl rfl rfl fun tm hS => ?_
 clear hI
 refine c_reg fun R hR => ?_
 refine o_alloc hS (.inl rfl) rfl Fz25 (by decide) ?_; clear hS; try clear tm H
 intro b1 tm H hS
 refine o_nil (hR _ _ ?_)
 clear hR R
 refine c_reg fun R hR => ?_
 refine o_pure hS (.inl rfl) rfl rfl ?_; clear hS; try clear tm
 intro tm hS
 refine o_lit (r := (rI .i64)) (l := [n1]) hS (.inl rfl) rfl Fl22 rfl rfl rfl (.cons rfl .nil) rfl rfl (ri_1 (rd_flat fun _ => rfl) ri_nil) rfl ?_; clear hS; try clear tm H
 intro v1 tm H hS
 refine o_build hS (.inl rfl) rfl Fb25 rfl (.cons (cells_one (hS.one (k := 0) rfl (.inr (.inr rfl)))) .nil) rfl ?_; clear hS; try clear tm
 intro tm hS
 refine o_st (k := 1) hS (.inl rfl) rfl rfl rfl Fs25 rfl rfl (all_cons rfl (all_cons rfl (all_cons (hS.one (k := 0) rfl (.inr (.inr rfl))) all_nil))) rfl ?_; clear hS; try clear H
 intro H hS
 refine o_nil (hR _ _ ?_)
 clear hR R
 refine wpC.ret ?_
 obtain rfl := Option.some.inj h0
 replace hS := hS.nilOwn (rI .i64)
 replace hS := hS.litOwn (k := 1) rfl
 refine Exists.intro _ (And.intro (rs_cellA (k := 2) hS rfl rfl (.inl rfl) Fu25 rfl Fs25 rfl rs_nil) ?_)
 have hI := hS.inv
 exact ⟨(.slice none 0 0), v1, rfl, (hI.sub (sc (sc sn)))⟩
theorem wk33 {wm : Nat} {H : AHeap} {Fr : List Ent}  (v1 : Val)  (v2 : Value) (v3 : Value) (hI : Kn wm H [.fz (rI .i64) v2 v1.Shape, .fz (rI .i64) v3 v1.Data] Fr) {r : Int × Bool} (h0 : M.value_One v1 = some r) :
  wpF Try.prog ora wm 33 [.agg #[.bool v1.Char, v2, v3]] H (fun res H => res = .tuple #[.int .i64 r.1, .bool r.2] ∧ Kn wm H [] Fr) := by
 unfold M.value_One at h0
 refine f_enter (n := 16) Try.func33 rfl (by simp) hI rfl rfl rfl fun tm hS => ?_
 clear hI
 refine c_reg fun R hR => ?_
 refine o_box hS (.inl rfl) rfl rfl rfl (all_cons rfl (all_cons (hS.one (k := 0) rfl (.inl rfl)) (all_cons (hS.one (k := 1) rfl (.inl rfl)) all_nil))) ?_; clear hS; try clear tm H
 intro b1 tm H hS
 refine o_pure hS (.inl rfl) rfl rfl ?_; clear hS; try clear tm
 intro tm hS
 refine o_pure hS (.inl rfl) rfl rfl ?_; clear hS; try clear tm
 intro tm hS
 refine o_nil (hR _ _ ?_)
 clear hR R
 refine c_seqS ?_
 refine c_reg fun R hR => ?_
 refine o_pure hS (.inl rfl) rfl rfl ?_; clear hS; try clear tm
 intro tm hS
 refine o_ld1 (k := 0) hS (.inl rfl) rfl rfl rfl (.inl rfl) Fu4 rfl rfl ?_; clear hS; try clear tm
 intro tm hS
 refine o_pure hS (.inl rfl) rfl rfl ?_; clear hS; try clear tm
 intro tm hS
 obtain ⟨c1, hc1⟩ : ∃ x : Bool, x = (v1.Char || ((v1.Data.length : Int) != 1)) := ⟨_, rfl⟩
 refine o_cutN 5 (J := fun tm H => S wm 16 tm H [(11, .bool c1), (1, .pointer (some ⟨b1, 0, none⟩))] [.box b1 [.bool v1.Char, v2, v3], .fz (rI .i64) v2 v1.Shape, .fz (rI .i64) v3 v1.Data] Fr) ?_ ?_
 ·rcases Bool.eq_false_or_eq_true v1.Char with hg1 | hg1
  ·refine o_skip hS rfl rfl rfl hg1 ?_; clear hS; try clear tm
   intro tm hS
   refine o_skip hS rfl rfl rfl hg1 ?_; clear hS; try clear tm
   intro tm hS
   refine o_skip hS rfl rfl rfl hg1 ?_; clear hS; try clear tm
   intro tm hS
   refine o_skip hS rfl rfl rfl hg1 ?_; clear hS; try clear tm
   intro tm hS
   refine o_pickT hS (.inl rfl) rfl rfl hg1 rfl ?_; clear hS; try clear tm
   intro tm hS
   have hc1 : c1 = true := hc1.trans (by rw [hg1]; first | rfl | simp)
   subst hc1
   exact o_nil (hS.keep (ka_cons rfl (ka_cons rfl ka_nil)) (fun hI => (hI.sub (sc (sc (sc sn))))))
  ·refine o_pure hS (.inr ⟨_, _, _, _, rfl, rfl, rfl, hg1⟩) rfl rfl ?_; clear hS; try clear tm
   intro tm hS
   refine o_ld1 (k := 0) hS (.inr ⟨_, _, _, _, rfl, rfl, rfl, hg1⟩) rfl rfl rfl (.inl rfl) Fu22 rfl rfl ?_; clear hS; try clear tm
   intro tm hS
   refine o_len (k := 2) (r := (rI .i64)) hS (.inr ⟨_, _, _, _, rfl, rfl, rfl, hg1⟩) rfl rfl rfl (.inl rfl) Fu22 rfl ?_; clear hS; try clear tm
   intro tm hS
   refine o_pure hS (.inr ⟨_, _, _, _, rfl, rfl, rfl, hg1⟩) rfl rfl ?_; clear hS; try clear tm
   intro tm hS
   refine o_pickF hS (.inl rfl) rfl rfl hg1 rfl ?_; clear hS; try clear tm
   intro tm hS
   have hc1 : c1 = ((v1.Data.length : Int) != 1) := hc1.trans (by rw [hg1]; first | rfl | simp)
   subst hc1
   exact o_nil (hS.keep (ka_cons rfl (ka_cons rfl ka_nil)) (fun hI => (hI.sub (sc (sc (sc sn))))))
 intro tm H hS
 subst hc1
 refine o_nil (hR _ _ ?_)
 clear hR R
 refine c_cond hS rfl (fun hc => ?_) (fun hc => ?_)
 ·replace h0 := iteT hc h0
  refine c_reg fun R hR => ?_
  refine o_pure hS (.inl rfl) rfl rfl ?_; clear hS; try clear tm
  intro tm hS
  refine o_pure hS (.inl rfl) rfl rfl ?_; clear hS; try clear tm
  intro tm hS
  refine o_nil (hR _ _ ?_)
  clear hR R
  refine wpC.ret ?_
  obtain rfl := Option.some.inj h0
  refine Exists.intro _ (And.intro (rs_tmp hS rfl (rs_tmp hS rfl rs_nil)) ?_)
  have hI := hS.inv
  exact ⟨rfl, (hI.sub sn)⟩
 ·replace h0 := iteF hc h0
  refine wpC.skip ?_
  refine c_reg fun R hR => ?_
  refine o_pure hS (.inl rfl) rfl rfl ?_; clear hS; try clear tm
  intro tm hS
  refine o_ld1 (k := 0) hS (.inl rfl) rfl rfl rfl (.inl rfl) Fu22 rfl rfl ?_; clear hS; try clear tm
  intro tm hS
  obtain ⟨y1, hx1, h0⟩ := bindS h0
  refine o_ixA (k := 2) (r := (rI .i64)) hS (.inl rfl) rfl rfl rfl rfl (.inl rfl) Fu22 Fs2 hx1 ?_; clear hS; try clear tm
  intro tm hS
  refine o_ldF (r := (rI .i64)) (k := 2) hS (.inl rfl) rfl rfl rfl (.inl rfl) hx1 Fu2 rfl (flat_I _) rfl ?_; clear hS; try clear tm
  intro tm hS
  refine o_pure hS (.inl rfl) rfl rfl ?_; clear hS; try clear tm
  intro tm hS
  refine o_pure hS (.inl rfl) rfl rfl ?_; clear hS; try clear tm
  intro tm hS
  refine o_nil (hR _ _ ?_)
  clear hR R
  refine wpC.ret ?_
  obtain rfl := Option.some.inj h0
  refine Exists.intro _ (And.intro (rs_tmp hS rfl (rs_tmp hS rfl rs_nil)) ?_)
  have hI := hS.inv
  exact ⟨rfl, (hI.sub sn)⟩
theorem wk53 {wm : Nat} {H : AHeap} {Fr : List Ent}  (s1 : (List Int)) (f1 : (Int → Option (Bool))) (gfn1 : FuncId) (gcap1 : Array Value) (E : List Ent) (hE : ∀ e ∈ E, e.blk = none) (hf : ∀ {wm : Nat} {H : AHeap} {Fr : List Ent} (y0 : Int) , Kn wm H (E) Fr → ∀ {r : Bool}, f1 y0 = some r → wpF Try.prog ora wm gfn1 ([.int .i64 y0] ++ gcap1.toList) H (fun res H => res = .bool r ∧ Kn wm H [] Fr)) (v1 : Value) (hI : Kn wm H (.fz (rI .i64) v1 s1 :: E) Fr) {r : Int} (h0 : M.slices_IndexFunc__int64 s1 f1 = some r) :
  wpF Try.prog ora wm 53 [v1, .func (.func gfn1) #[] gcap1] H (fun res H => res = .int .i64 r ∧ Kn wm H [] Fr) := by
 unfold M.slices_IndexFunc__int64 at h0
 refine f_enter (n := 19) Try.func53 rfl (by simp) hI rfl rfl rfl fun tm hS => ?_
 clear hI
 refine c_reg fun R hR => ?_
 refine o_pure hS (.inl rfl) rfl rfl ?_; clear hS; try clear tm
 intro tm hS
 refine o_nil (hR _ _ ?_)
 clear hR R
 refine c_seqS ?_
 refine c_reg fun R hR => ?_
 refine o_pure hS (.inl rfl) rfl rfl ?_; clear hS; try clear tm
 intro tm hS
 refine o_len (k := 0) (r := (rI .i64)) hS (.inl rfl) rfl rfl rfl (.inl rfl) Fu22 rfl ?_; clear hS; try clear tm
 intro tm hS
 refine o_pure hS (.inl rfl) rfl rfl ?_; clear hS; try clear tm
 intro tm hS
 refine o_nil (hR _ _ ?_)
 clear hR R
 obtain ⟨k1, hw1, h0⟩ := bindS h0
 refine wpC.block ?_
 refine c_loop (I := fun (s : Int) tm H => match (generalizing := false) s with | t1 => S wm 19 tm H [(0, v1), (1, .func (.func gfn1) #[] gcap1), (7, .int .i64 (s1.length : Int)), (8, .int .i64 t1)] (.fz (rI .i64) v1 s1 :: E) Fr) hw1 (by change S wm 19 _ _ _ _ Fr; exact hS.keep (ka_cons rfl (ka_cons rfl (ka_cons rfl (ka_cons rfl ka_nil)))) (fun hI => (hI.sub (sc sr)))) ?_
 clear hS
 intro t1 tm H c1 hS h1 hq1
 change S wm 19 tm H [(0, v1), (1, .func (.func gfn1) #[] gcap1), (7, .int .i64 (s1.length : Int)), (8, .int .i64 t1)] (.fz (rI .i64) v1 s1 :: E) Fr at hS
 refine c_reg fun R hR => ?_
 refine o_pure hS (.inl rfl) rfl rfl ?_; clear hS; try clear tm
 intro tm hS
 refine o_nil (hR _ _ ?_)
 clear hR R
 refine c_seqS ?_
 refine c_cond hS rfl (fun hc => ?_) (fun hc => ?_)
 ·replace h1 := iteT hc h1
  refine wpC.skip ?_
  refine c_seqS ?_
  refine wpC.block ?_
  refine c_reg fun R hR => ?_
  refine o_pure hS (.inl rfl) rfl rfl ?_; clear hS; try clear tm
  intro tm hS
  refine o_pure hS (.inl rfl) rfl rfl ?_; clear hS; try clear tm
  intro tm hS
  refine o_nil (hR _ _ ?_)
  clear hR R
  refine c_reg fun R hR => ?_
  refine o_pure hS (.inl rfl) rfl rfl ?_; clear hS; try clear tm
  intro tm hS
  refine o_pure hS (.inl rfl) rfl rfl ?_; clear hS; try clear tm
  intro tm hS
  refine o_pure hS (.inl rfl) rfl rfl ?_; clear hS; try clear tm
  intro tm hS
  obtain ⟨y1, hx1, h1⟩ := bindS h1
  refine o_ixA (k := 0) (r := (rI .i64)) hS (.inl rfl) rfl rfl rfl rfl (.inl rfl) Fu22 Fs2 hx1 ?_; clear hS; try clear tm
  intro tm hS
  refine o_ldF (r := (rI .i64)) (k := 0) hS (.inl rfl) rfl rfl rfl (.inl rfl) hx1 Fu2 rfl (flat_I _) rfl ?_; clear hS; try clear tm
  intro tm hS
  obtain ⟨r1, hx2, h1⟩ := bindS h1
  refine o_call hS (.inl rfl) rfl (fun wm' hw1 hw2 => hf y1  ((hS.sel hw2).adAll hE (fun e he => List.mem_cons_of_mem _ (he))) hx2) (fun wm' res H hw' hp => ?_)
  obtain ⟨hres, hI⟩ := hp
  replace hres := hres.symm; subst hres
  replace hS : S wm 19 _ H ((16, .bool r1) :: _) ([] ++ _) Fr := hS.after rfl hw' hI
  clear hI hw'
  refine o_nil (hR _ _ ?_)
  clear hR R
  refine c_cond hS rfl (fun hc => ?_) (fun hc => ?_)
  ·replace h1 := iteT hc h1
   refine c_reg fun R hR => ?_
   refine o_pure hS (.inl rfl) rfl rfl ?_; clear hS; try clear tm
   intro tm hS
   refine o_pure hS (.inl rfl) rfl rfl ?_; clear hS; try clear tm
   intro tm hS
   refine o_nil (hR _ _ ?_)
   clear hR R
   refine wpC.ret ?_
   obtain rfl := Option.some.inj h1
   obtain rfl := hq1 _ rfl
   refine And.intro rfl ?_
   obtain rfl := leave h0
   refine Exists.intro _ (And.intro (rs_tmp hS rfl rs_nil) ?_)
   have hI := hS.inv
   exact ⟨rfl, (hI.sub sn)⟩
  ·replace h1 := iteF hc h1
   refine wpC.skip ?_
   refine c_reg1 fun R hR => ?_
   refine o_pure hS (.inl rfl) rfl rfl ?_; clear hS; try clear tm
   intro tm hS
   refine o_pure hS (.inl rfl) rfl rfl ?_; clear hS; try clear tm
   intro tm hS
   refine o_nil (hR _ _ ?_)
   clear hR R
   obtain rfl := Option.some.inj h1
   refine ⟨_, rfl, ?_⟩
   change S wm 19 _ _ _ _ Fr; exact hS.keep (ka_cons rfl (ka_cons rfl (ka_cons rfl (ka_cons rfl ka_nil)))) (fun hI => (hI.sub (sc sr)))
 ·replace h1 := iteF hc h1
  refine wpC.exit ?_
  refine seqX ?_
  obtain rfl := Option.some.inj h1
  obtain rfl := hq1 _ rfl
  refine And.intro rfl (blk_eq ?_)
  replace h0 := joinN h0
  refine c_reg fun R hR => ?_
  refine o_pure hS (.inl rfl) rfl rfl ?_; clear hS; try clear tm
  intro tm hS
  refine o_nil (hR _ _ ?_)
  clear hR R
  refine wpC.ret ?_
  obtain rfl := Option.some.inj h0
  refine Exists.intro _ (And.intro (rs_tmp hS rfl rs_nil) ?_)
  have hI := hS.inv
  exact ⟨rfl, (hI.sub sn)⟩
theorem wk39 {wm : Nat} {H : AHeap} {Fr : List Ent}  (s1 : (List Int)) (f1 : (Int → Option (Bool))) (gfn1 : FuncId) (gcap1 : Array Value) (E : List Ent) (hE : ∀ e ∈ E, e.blk = none) (hf : ∀ {wm : Nat} {H : AHeap} {Fr : List Ent} (y0 : Int) , Kn wm H (E) Fr → ∀ {r : Bool}, f1 y0 = some r → wpF Try.prog ora wm gfn1 ([.int .i64 y0] ++ gcap1.toList) H (fun res H => res = .bool r ∧ Kn wm H [] Fr)) (v1 : Value) (hI : Kn wm H (.fz (rI .i64) v1 s1 :: E) Fr) {r : Bool} (h0 : M.slices_ContainsFunc__int64 s1 f1 = some r) :
  wpF Try.prog ora wm 39 [v1, .func (.func gfn1) #[] gcap1] H (fun res H => res = .bool r ∧ Kn wm H [] Fr) := by
 unfold M.slices_ContainsFunc__int64 at h0
 refine f_enter (n := 9) Try.func39 rfl (by simp) hI rfl rfl rfl fun tm hS => ?_
 clear hI
 refine c_reg fun R hR => ?_
 refine o_pure hS (.inl rfl) rfl rfl ?_; clear hS; try clear tm
 intro tm hS
 refine o_nil (hR _ _ ?_)
 clear hR R
 refine c_reg fun R hR => ?_
 refine o_pure hS (.inl rfl) rfl rfl ?_; clear hS; try clear tm
 intro tm hS
 refine o_pure hS (.inl rfl) rfl rfl ?_; clear hS; try clear tm
 intro tm hS
 obtain ⟨r1, hx1, h0⟩ := bindS h0
 refine o_call hS (.inl rfl) rfl (fun wm' hw1 hw2 => wk53  s1 f1 gfn1 gcap1 E hE hf v1 (((hS.sel hw2).adAll hE (fun e he => List.mem_cons_of_mem _ (he))).ad 0 rfl) hx1) (fun wm' res H hw' hp => ?_)
 obtain ⟨hres, hI⟩ := hp
 replace hres := hres.symm; subst hres
 replace hS : S wm 9 _ H ((7, .int .i64 r1) :: _) ([] ++ _) Fr := hS.after rfl hw' hI
 clear hI hw'
 refine o_pure hS (.inl rfl) rfl rfl ?_; clear hS; try clear tm
 intro tm hS
 refine o_pure hS (.inl rfl) rfl rfl ?_; clear hS; try clear tm
 intro tm hS
 refine o_nil (hR _ _ ?_)
 clear hR R
 refine wpC.ret ?_
 obtain rfl := Option.some.inj h0
 refine Exists.intro _ (And.intro (rs_tmp hS rfl rs_nil) ?_)
 have hI := hS.inv
 exact ⟨rfl, (hI.sub sn)⟩
theorem wk55 {wm : Nat} {H : AHeap} {Fr : List Ent}  (r1 : Int)   (hI : Kn wm H [] Fr) {r : Bool} (h0 : M.unicode_utf8_ValidRune r1 = some r) :
  wpF Try.prog ora wm 55 [.int .i32 r1] H (fun res H => res = .bool r ∧ Kn wm H [] Fr) := by
 unfold M.unicode_utf8_ValidRune at h0
 refine f_enter (n := 17) Try.func55 rfl (by simp) hI rfl rfl rfl fun tm hS => ?_
 clear hI
 refine c_reg fun R hR => ?_
 refine o_pure hS (.inl rfl) rfl rfl ?_; clear hS; try clear tm
 intro tm hS
 refine o_nil (hR _ _ ?_)
 clear hR R
 refine c_seqS ?_
 refine wpC.block ?_
 refine c_reg fun R hR => ?_
 refine o_pure hS (.inl rfl) rfl rfl ?_; clear hS; try clear tm
 intro tm hS
 refine o_pure hS (.inl rfl) rfl rfl ?_; clear hS; try clear tm
 intro tm hS
 refine o_pure hS (.inl rfl) rfl rfl ?_; clear hS; try clear tm
 intro tm hS
 obtain ⟨c1, hc1⟩ : ∃ x : Bool, x = ((decide (0 ≤ r1)) && (decide (r1 < 55296))) := ⟨_, rfl⟩
 refine o_cutN 3 (J := fun tm H => S wm 17 tm H [(9, .bool c1), (0, .int .i32 r1)] [] Fr) ?_ ?_
 ·rcases Bool.eq_false_or_eq_true (decide (0 ≤ r1)) with hg1 | hg1
  ·refine o_pure hS (.inr ⟨_, _, _, _, rfl, rfl, rfl, hg1⟩) rfl rfl ?_; clear hS; try clear tm
   intro tm hS
   refine o_pure hS (.inr ⟨_, _, _, _, rfl, rfl, rfl, hg1⟩) rfl rfl ?_; clear hS; try clear tm
   intro tm hS
   refine o_pickT hS (.inl rfl) rfl rfl hg1 rfl ?_; clear hS; try clear tm
   intro tm hS
   have hc1 : c1 = (decide (r1 < 55296)) := hc1.trans (by rw [hg1]; first | rfl | simp)
   subst hc1
   exact o_nil (hS.keep (ka_cons rfl (ka_cons rfl ka_nil)) (fun hI => (hI.sub sn)))
  ·refine o_skip hS rfl rfl rfl hg1 ?_; clear hS; try clear tm
   intro tm hS
   refine o_skip hS rfl rfl rfl hg1 ?_; clear hS; try clear tm
   intro tm hS
   refine o_pickF hS (.inl rfl) rfl rfl hg1 rfl ?_; clear hS; try clear tm
   intro tm hS
   have hc1 : c1 = false := hc1.trans (by rw [hg1]; first | rfl | simp)
   subst hc1
   exact o_nil (hS.keep (ka_cons rfl (ka_cons rfl ka_nil)) (fun hI => (hI.sub sn)))
 intro tm H hS
 subst hc1
 refine o_pure hS (.inl rfl) rfl rfl ?_; clear hS; try clear tm
 intro tm hS
 refine o_nil (hR _ _ ?_)
 clear hR R
 refine c_cond hS rfl (fun hc => ?_) (fun hc => ?_)
 ·replace h0 := iteT hc h0
  refine c_reg fun R hR => ?_
  refine o_pure hS (.inl rfl) rfl rfl ?_; clear hS; try clear tm
  intro tm hS
  refine o_nil (hR _ _ ?_)
  clear hR R
  refine wpC.ret ?_
  obtain rfl := Option.some.inj h0
  refine Exists.intro _ (And.intro (rs_tmp hS rfl rs_nil) ?_)
  have hI := hS.inv
  exact ⟨rfl, (hI.sub sn)⟩
 ·replace h0 := iteF hc h0
  refine c_reg fun R hR => ?_
  refine o_pure hS (.inl rfl) rfl rfl ?_; clear hS; try clear tm
  intro tm hS
  refine o_pure hS (.inl rfl) rfl rfl ?_; clear hS; try clear tm
  intro tm hS
  refine o_pure hS (.inl rfl) rfl rfl ?_; clear hS; try clear tm
  intro tm hS
  obtain ⟨c2, hc2⟩ : ∃ x : Bool, x = ((decide (57343 < r1)) && (decide (r1 ≤ 1114111))) := ⟨_, rfl⟩
  refine o_cutN 3 (J := fun tm H => S wm 17 tm H [(16, .bool c2)] [] Fr) ?_ ?_
  ·rcases Bool.eq_false_or_eq_true (decide (57343 < r1)) with hg2 | hg2
   ·refine o_pure hS (.inr ⟨_, _, _, _, rfl, rfl, rfl, hg2⟩) rfl rfl ?_; clear hS; try clear tm
    intro tm hS
    refine o_pure hS (.inr ⟨_, _, _, _, rfl, rfl, rfl, hg2⟩) rfl rfl ?_; clear hS; try clear tm
    intro tm hS
    refine o_pickT hS (.inl rfl) rfl rfl hg2 rfl ?_; clear hS; try clear tm
    intro tm hS
    have hc2 : c2 = (decide (r1 ≤ 1114111)) := hc2.trans (by rw [hg2]; first | rfl | simp)
    subst hc2
    exact o_nil (hS.keep (ka_cons rfl ka_nil) (fun hI => (hI.sub sn)))
   ·refine o_skip hS rfl rfl rfl hg2 ?_; clear hS; try clear tm
    intro tm hS
    refine o_skip hS rfl rfl rfl hg2 ?_; clear hS; try clear tm
    intro tm hS
    refine o_pickF hS (.inl rfl) rfl rfl hg2 rfl ?_; clear hS; try clear tm
    intro tm hS
    have hc2 : c2 = false := hc2.trans (by rw [hg2]; first | rfl | simp)
    subst hc2
    exact o_nil (hS.keep (ka_cons rfl ka_nil) (fun hI => (hI.sub sn)))
  intro tm H hS
  subst hc2
  refine o_pure hS (.inl rfl) rfl rfl ?_; clear hS; try clear tm
  intro tm hS
  refine o_nil (hR _ _ ?_)
  clear hR R
  refine c_cond hS rfl (fun hc => ?_) (fun hc => ?_)
  ·replace h0 := iteT hc h0
   refine c_reg fun R hR => ?_
   refine o_pure hS (.inl rfl) rfl rfl ?_; clear hS; try clear tm
   intro tm hS
   refine o_nil (hR _ _ ?_)
   clear hR R
   refine wpC.ret ?_
   obtain rfl := Option.some.inj h0
   refine Exists.intro _ (And.intro (rs_tmp hS rfl rs_nil) ?_)
   have hI := hS.inv
   exact ⟨rfl, (hI.sub sn)⟩
  ·replace h0 := iteF hc h0
   refine wpC.skip ?_
   refine c_reg fun R hR => ?_
   refine o_pure hS (.inl rfl) rfl rfl ?_; clear hS; try clear tm
   intro tm hS
   refine o_nil (hR _ _ ?_)
   clear hR R
   refine wpC.ret ?_
   obtain rfl := Option.some.inj h0
   refine Exists.intro _ (And.intro (rs_tmp hS rfl rs_nil) ?_)
   have hI := hS.inv
   exact ⟨rfl, (hI.sub sn)⟩
theorem wk46 {wm : Nat} {H : AHeap} {Fr : List Ent}  (n1 : Int)   (hI : Kn wm H [] Fr) {r : Bool} (h0 : M.value_character n1 = some r) :
  wpF Try.prog ora wm 46 [.int .i64 n1] H (fun res H => res = .bool r ∧ Kn wm H [] Fr) := by
 unfold M.value_character at h0
 refine f_enter (n := 14) Try.func46 rfl (by simp) hI rfl rfl rfl fun tm hS => ?_
 clear hI
 refine c_reg fun R hR => ?_
 refine o_pure hS (.inl rfl) rfl rfl ?_; clear hS; try clear tm
 intro tm hS
 refine o_nil (hR _ _ ?_)
 clear hR R
 refine c_reg fun R hR => ?_
 refine o_pure hS (.inl rfl) rfl rfl ?_; clear hS; try clear tm
 intro tm hS
 refine o_pure hS (.inl rfl) rfl rfl ?_; clear hS; try clear tm
 intro tm hS
 refine o_pure hS (.inl rfl) rfl rfl ?_; clear hS; try clear tm
 intro tm hS
 obtain ⟨c1, hc1⟩ : ∃ x : Bool, x = ((decide (n1 ≥ 0)) && (decide (n1 ≤ 1114111))) := ⟨_, rfl⟩
 refine o_cutN 3 (J := fun tm H => S wm 14 tm H [(8, .bool c1), (0, .int .i64 n1)] [] Fr) ?_ ?_
 ·rcases Bool.eq_false_or_eq_true (decide (n1 ≥ 0)) with hg1 | hg1
  ·refine o_pure hS (.inr ⟨_, _, _, _, rfl, rfl, rfl, hg1⟩) rfl rfl ?_; clear hS; try clear tm
   intro tm hS
   refine o_pure hS (.inr ⟨_, _, _, _, rfl, rfl, rfl, hg1⟩) rfl rfl ?_; clear hS; try clear tm
   intro tm hS
   refine o_pickT hS (.inl rfl) rfl rfl hg1 rfl ?_; clear hS; try clear tm
   intro tm hS
   have hc1 : c1 = (decide (n1 ≤ 1114111)) := hc1.trans (by rw [hg1]; first | rfl | simp)
   subst hc1
   exact o_nil (hS.keep (ka_cons rfl (ka_cons rfl ka_nil)) (fun hI => (hI.sub sn)))
  ·refine o_skip hS rfl rfl rfl hg1 ?_; clear hS; try clear tm
   intro tm hS
   refine o_skip hS rfl rfl rfl hg1 ?_; clear hS; try clear tm
   intro tm hS
   refine o_pickF hS (.inl rfl) rfl rfl hg1 rfl ?_; clear hS; try clear tm
   intro tm hS
   have hc1 : c1 = false := hc1.trans (by rw [hg1]; first | rfl | simp)
   subst hc1
   exact o_nil (hS.keep (ka_cons rfl (ka_cons rfl ka_nil)) (fun hI => (hI.sub sn)))
 intro tm H hS
 subst hc1
 refine o_pure hS (.inl rfl) rfl rfl ?_; clear hS; try clear tm
 intro tm hS
 obtain ⟨c2, hc2, h0⟩ := bindS h0
 refine o_cutN 4 (J := fun tm H => S wm 14 tm H [(13, .bool c2)] [] Fr) ?_ ?_
 ·rcases Bool.eq_false_or_eq_true ((decide (n1 ≥ 0)) && (decide (n1 ≤ 1114111))) with hg2 | hg2
  ·replace hc2 := iteT hg2 hc2
   refine o_pure hS (.inr ⟨_, _, _, _, rfl, rfl, rfl, hg2⟩) rfl rfl ?_; clear hS; try clear tm
   intro tm hS
   refine o_pure hS (.inr ⟨_, _, _, _, rfl, rfl, rfl, hg2⟩) rfl rfl ?_; clear hS; try clear tm
   intro tm hS
   obtain ⟨r1, hx1, hc2⟩ := bindS hc2
   refine o_call hS (.inr ⟨_, _, _, _, rfl, rfl, rfl, hg2⟩) rfl (fun wm' hw1 hw2 => wk55  (IntKind.i32.wrap n1)   (hS.sel hw2) hx1) (fun wm' res H hw' hp => ?_)
   obtain ⟨hres, hI⟩ := hp
   replace hres := hres.symm; subst hres
   replace hS : S wm 14 _ H ((12, .bool r1) :: _) ([] ++ _) Fr := hS.after rfl hw' hI
   clear hI hw'
   refine o_pickT hS (.inl rfl) rfl rfl hg2 rfl ?_; clear hS; try clear tm
   intro tm hS
   obtain rfl := Option.some.inj hc2
   exact o_nil (hS.keep (ka_cons rfl ka_nil) (fun hI => (hI.sub sn)))
  ·replace hc2 := iteF hg2 hc2
   refine o_skip hS rfl rfl rfl hg2 ?_; clear hS; try clear tm
   intro tm hS
   refine o_skip hS rfl rfl rfl hg2 ?_; clear hS; try clear tm
   intro tm hS
   refine o_skip hS rfl rfl rfl hg2 ?_; clear hS; try clear tm
   intro tm hS
   refine o_pickF hS (.inl rfl) rfl rfl hg2 rfl ?_; clear hS; try clear tm
   intro tm hS
   obtain rfl := Option.some.inj hc2
   exact o_nil (hS.keep (ka_cons rfl ka_nil) (fun hI => (hI.sub sn)))
 intro tm H hS
 refine o_pure hS (.inl rfl) rfl rfl ?_; clear hS; try clear tm
 intro tm hS
 refine o_nil (hR _ _ ?_)
 clear hR R
 refine wpC.ret ?_
 obtain rfl := Option.some.inj h0
 refine Exists.intro _ (And.intro (rs_tmp hS rfl rs_nil) ?_)
 have hI := hS.inv
 exact ⟨rfl, (hI.sub sn)⟩
theorem wk45 {wm : Nat} {H : AHeap} {Fr : List Ent}  (n1 : Int)   (hI : Kn wm H [] Fr) {r : Bool} (h0 : M.value_Right_1 n1 = some r) :
  wpF Try.prog ora wm 45 [.int .i64 n1] H (fun res H => res = .bool r ∧ Kn wm H [] Fr) := by
 unfold M.value_Right_1 at h0
 refine f_enter (n := 6) Try.func45 rfl (by simp) hI rfl rfl rfl fun tm hS => ?_
 clear hI
 refine c_reg fun R hR => ?_
 refine o_pure hS (.inl rfl) rfl rfl ?_; clear hS; try clear tm
 intro tm hS
 refine o_nil (hR _ _ ?_)
 clear hR R
 refine c_reg fun R hR => ?_
 refine o_pure hS (.inl rfl) rfl rfl ?_; clear hS; try clear tm
 intro tm hS
 obtain ⟨r1, hx1, h0⟩ := bindS h0
 refine o_call hS (.inl rfl) rfl (fun wm' hw1 hw2 => wk46  n1   (hS.sel hw2) hx1) (fun wm' res H hw' hp => ?_)
 obtain ⟨hres, hI⟩ := hp
 replace hres := hres.symm; subst hres
 replace hS : S wm 6 _ H ((4, .bool r1) :: _) ([] ++ _) Fr := hS.after rfl hw' hI
 clear hI hw'
 refine o_pure hS (.inl rfl) rfl rfl ?_; clear hS; try clear tm
 intro tm hS
 refine o_pure hS (.inl rfl) rfl rfl ?_; clear hS; try clear tm
 intro tm hS
 refine o_nil (hR _ _ ?_)
 clear hR R
 refine wpC.ret ?_
 obtain rfl := Option.some.inj h0
 refine Exists.intro _ (And.intro (rs_tmp hS rfl rs_nil) ?_)
 have hI := hS.inv
 exact ⟨rfl, (hI.sub sn)⟩
theorem wk30 {wm : Nat} {H : AHeap} {Fr : List Ent}  (v1 : Val)  (v2 : Value) (v3 : Value) (hI : Kn wm H [.fz (rI .i64) v2 v1.Shape, .fz (rI .i64) v3 v1.Data] Fr) {r : Bool} (h0 : M.value_Right v1 = some r) :
  wpF Try.prog ora wm 30 [.agg #[.bool v1.Char, v2, v3]] H (fun res H => res = .bool r ∧ Kn wm H [] Fr) := by
 unfold M.value_Right at h0
 refine f_enter (n := 45) Try.func30 rfl (by simp) hI rfl rfl rfl fun tm hS => ?_
 clear hI
 refine c_reg fun R hR => ?_
 refine o_box hS (.inl rfl) rfl rfl rfl (all_cons rfl (all_cons (hS.one (k := 0) rfl (.inl rfl)) (all_cons (hS.one (k := 1) rfl (.inl rfl)) all_nil))) ?_; clear hS; try clear tm H
 intro b1 tm H hS
 refine o_pure hS (.inl rfl) rfl rfl ?_; clear hS; try clear tm
 intro tm hS
 refine o_nil (hR _ _ ?_)
 clear hR R
 refine c_seqS ?_
 refine c_reg fun R hR => ?_
 refine o_pure hS (.inl rfl) rfl rfl ?_; clear hS; try clear tm
 intro tm hS
 refine o_ld1 (k := 0) hS (.inl rfl) rfl rfl rfl (.inl rfl) Fu23 rfl rfl ?_; clear hS; try clear tm
 intro tm hS
 refine o_len (k := 1) (r := (rI .i64)) hS (.inl rfl) rfl rfl rfl (.inl rfl) Fu23 rfl ?_; clear hS; try clear tm
 intro tm hS
 refine o_pure hS (.inl rfl) rfl rfl ?_; clear hS; try clear tm
 intro tm hS
 refine o_nil (hR _ _ ?_)
 clear hR R
 refine c_cond hS rfl (fun hc => ?_) (fun hc => ?_)
 ·replace h0 := iteT hc h0
  refine c_reg fun R hR => ?_
  refine o_pure hS (.inl rfl) rfl rfl ?_; clear hS; try clear tm
  intro tm hS
  refine o_nil (hR _ _ ?_)
  clear hR R
  refine wpC.ret ?_
  obtain rfl := Option.some.inj h0
  refine Exists.intro _ (And.intro (rs_tmp hS rfl rs_nil) ?_)
  have hI := hS.inv
  exact ⟨rfl, (hI.sub sn)⟩
 ·replace h0 := iteF hc h0
  refine wpC.skip ?_
  refine c_reg fun R hR => ?_
  refine o_pure hS (.inl rfl) rfl rfl ?_; clear hS; try clear tm
  intro tm hS
  refine o_nil (hR _ _ ?_)
  clear hR R
  refine c_seqS ?_
  refine c_reg fun R hR => ?_
  refine o_pure hS (.inl rfl) rfl rfl ?_; clear hS; try clear tm
  intro tm hS
  refine o_ld1 (k := 0) hS (.inl rfl) rfl rfl rfl (.inl rfl) Fu23 rfl rfl ?_; clear hS; try clear tm
  intro tm hS
  refine o_len (k := 1) (r := (rI .i64)) hS (.inl rfl) rfl rfl rfl (.inl rfl) Fu23 rfl ?_; clear hS; try clear tm
  intro tm hS
  refine o_pure hS (.inl rfl) rfl rfl ?_; clear hS; try clear tm
  intro tm hS
  refine o_nil (hR _ _ ?_)
  clear hR R
  obtain ⟨k1, hw1, h0⟩ := bindS h0
  refine wpC.block ?_
  refine c_loop (I := fun (s : Int × Int) tm H => match (generalizing := false) s with | (size1, t1) => S wm 45 tm H [(1, .pointer (some ⟨b1, 0, none⟩)), (3, .int .i64 size1), (11, v2), (12, .int .i64 (v1.Shape.length : Int)), (13, .int .i64 t1)] [.box b1 [.bool v1.Char, v2, v3], .fz (rI .i64) v2 v1.Shape, .fz (rI .i64) v3 v1.Data] Fr) hw1 (by change S wm 45 _ _ _ _ Fr; exact hS.keep (ka_cons rfl (ka_cons rfl (ka_cons rfl (ka_cons rfl (ka_cons rfl ka_nil))))) (fun hI => (hI.sub (sc (sc (sc sn)))))) ?_
  clear hS
  intro s1 tm H c1 hS h1 hq1
  obtain ⟨size1, t1⟩ := s1
  change S wm 45 tm H [(1, .pointer (some ⟨b1, 0, none⟩)), (3, .int .i64 size1), (11, v2), (12, .int .i64 (v1.Shape.length : Int)), (13, .int .i64 t1)] [.box b1 [.bool v1.Char, v2, v3], .fz (rI .i64) v2 v1.Shape, .fz (rI .i64) v3 v1.Data] Fr at hS
  refine c_reg fun R hR => ?_
  refine o_pure hS (.inl rfl) rfl rfl ?_; clear hS; try clear tm
  intro tm hS
  refine o_nil (hR _ _ ?_)
  clear hR R
  refine c_seqS ?_
  refine c_cond hS rfl (fun hc => ?_) (fun hc => ?_)
  ·replace h1 := iteT hc h1
   refine wpC.skip ?_
   refine c_seqS ?_
   refine wpC.block ?_
   refine c_reg fun R hR => ?_
   obtain ⟨y1, hx1, h1⟩ := bindS h1
   refine o_ixA (k := 1) (r := (rI .i64)) hS (.inl rfl) rfl rfl rfl rfl (.inl rfl) Fu23 Fs3 hx1 ?_; clear hS; try clear tm
   intro tm hS
   refine o_ldF (r := (rI .i64)) (k := 1) hS (.inl rfl) rfl rfl rfl (.inl rfl) hx1 Fu3 rfl (flat_I _) rfl ?_; clear hS; try clear tm
   intro tm hS
   refine o_pure hS (.inl rfl) rfl rfl ?_; clear hS; try clear tm
   intro tm hS
   refine o_nil (hR _ _ ?_)
   clear hR R
   refine c_seqS ?_
   refine c_reg fun R hR => ?_
   refine o_pure hS (.inl rfl) rfl rfl ?_; clear hS; try clear tm
   intro tm hS
   refine o_pure hS (.inl rfl) rfl rfl ?_; clear hS; try clear tm
   intro tm hS
   refine o_pure hS (.inl rfl) rfl rfl ?_; clear hS; try clear tm
   intro tm hS
   obtain ⟨c2, hc1⟩ : ∃ x : Bool, x = ((decide (y1 < 0)) || (decide (y1 > 10000))) := ⟨_, rfl⟩
   refine o_cutN 3 (J := fun tm H => S wm 45 tm H [(22, .bool c2), (1, .pointer (some ⟨b1, 0, none⟩)), (3, .int .i64 size1), (11, v2), (12, .int .i64 (v1.Shape.length : Int)), (13, .int .i64 t1), (5, .int .i64 y1)] [.box b1 [.bool v1.Char, v2, v3], .fz (rI .i64) v2 v1.Shape, .fz (rI .i64) v3 v1.Data] Fr) ?_ ?_
   ·rcases Bool.eq_false_or_eq_true (decide (y1 < 0)) with hg1 | hg1
    ·refine o_skip hS rfl rfl rfl hg1 ?_; clear hS; try clear tm
     intro tm hS
     refine o_skip hS rfl rfl rfl hg1 ?_; clear hS; try clear tm
     intro tm hS
     refine o_pickT hS (.inl rfl) rfl rfl hg1 rfl ?_; clear hS; try clear tm
     intro tm hS
     have hc1 : c2 = true := hc1.trans (by rw [hg1]; first | rfl | simp)
     subst hc1
     exact o_nil (hS.keep (ka_cons rfl (ka_cons rfl (ka_cons rfl (ka_cons rfl (ka_cons rfl (ka_cons rfl (ka_cons rfl ka_nil))))))) (fun hI => (hI.sub (sc (sc (sc sn))))))
    ·refine o_pure hS (.inr ⟨_, _, _, _, rfl, rfl, rfl, hg1⟩) rfl rfl ?_; clear hS; try clear tm
     intro tm hS
     refine o_pure hS (.inr ⟨_, _, _, _, rfl, rfl, rfl, hg1⟩) rfl rfl ?_; clear hS; try clear tm
     intro tm hS
     refine o_pickF hS (.inl rfl) rfl rfl hg1 rfl ?_; clear hS; try clear tm
     intro tm hS
     have hc1 : c2 = (decide (y1 > 10000)) := hc1.trans (by rw [hg1]; first | rfl | simp)
     subst hc1
     exact o_nil (hS.keep (ka_cons rfl (ka_cons rfl (ka_cons rfl (ka_cons rfl (ka_cons rfl (ka_cons rfl (ka_cons rfl ka_nil))))))) (fun hI => (hI.sub (sc (sc (sc sn))))))
   intro tm H hS
   subst hc1
   refine o_nil (hR _ _ ?_)
   clear hR R
   refine c_cond hS rfl (fun hc => ?_) (fun hc => ?_)
   ·replace h1 := iteT hc h1
    refine c_reg fun R hR => ?_
    refine o_pure hS (.inl rfl) rfl rfl ?_; clear hS; try clear tm
    intro tm hS
    refine o_nil (hR _ _ ?_)
    clear hR R
    refine wpC.ret ?_
    obtain rfl := Option.some.inj h1
    obtain rfl := hq1 _ rfl
    refine And.intro rfl ?_
    obtain rfl := leave h0
    refine Exists.intro _ (And.intro (rs_tmp hS rfl rs_nil) ?_)
    have hI := hS.inv
    exact ⟨rfl, (hI.sub sn)⟩
   ·replace h1 := iteF hc h1
    refine wpC.skip ?_
    refine c_reg1 fun R hR => ?_
    refine o_pure hS (.inl rfl) rfl rfl ?_; clear hS; try clear tm
    intro tm hS
    refine o_pure hS (.inl rfl) rfl rfl ?_; clear hS; try clear tm
    intro tm hS
    refine o_pure hS (.inl rfl) rfl rfl ?_; clear hS; try clear tm
    intro tm hS
    refine o_pure hS (.inl rfl) rfl rfl ?_; clear hS; try clear tm
    intro tm hS
    refine o_nil (hR _ _ ?_)
    clear hR R
    refine c_reg1 fun R hR => ?_
    refine o_pure hS (.inl rfl) rfl rfl ?_; clear hS; try clear tm
    intro tm hS
    refine o_pure hS (.inl rfl) rfl rfl ?_; clear hS; try clear tm
    intro tm hS
    refine o_nil (hR _ _ ?_)
    clear hR R
    obtain rfl := Option.some.inj h1
    refine ⟨_, rfl, ?_⟩
    change S wm 45 _ _ _ _ Fr; exact hS.keep (ka_cons rfl (ka_cons rfl (ka_cons rfl (ka_cons rfl (ka_cons rfl ka_nil))))) (fun hI => (hI.sub (sc (sc (sc sn)))))
  ·replace h1 := iteF hc h1
   refine wpC.exit ?_
   refine seqX ?_
   obtain rfl := Option.some.inj h1
   obtain rfl := hq1 _ rfl
   refine And.intro rfl (blk_eq ?_)
   replace h0 := joinN h0
   refine c_seqS ?_
   refine c_reg fun R hR => ?_
   refine o_pure hS (.inl rfl) rfl rfl ?_; clear hS; try clear tm
   intro tm hS
   refine o_pure hS (.inl rfl) rfl rfl ?_; clear hS; try clear tm
   intro tm hS
   refine o_pure hS (.inl rfl) rfl rfl ?_; clear hS; try clear tm
   intro tm hS
   obtain ⟨c3, hc2⟩ : ∃ x : Bool, x = ((decide (size1 > 10000)) || (size1 != (v1.Data.length : Int))) := ⟨_, rfl⟩
   refine o_cutN 6 (J := fun tm H => S wm 45 tm H [(35, .bool c3), (1, .pointer (some ⟨b1, 0, none⟩))] [.box b1 [.bool v1.Char, v2, v3], .fz (rI .i64) v2 v1.Shape, .fz (rI .i64) v3 v1.Data] Fr) ?_ ?_
   ·rcases Bool.eq_false_or_eq_true (decide (size1 > 10000)) with hg2 | hg2
    ·refine o_skip hS rfl rfl rfl hg2 ?_; clear hS; try clear tm
     intro tm hS
     refine o_skip hS rfl rfl rfl hg2 ?_; clear hS; try clear tm
     intro tm hS
     refine o_skip hS rfl rfl rfl hg2 ?_; clear hS; try clear tm
     intro tm hS
     refine o_skip hS rfl rfl rfl hg2 ?_; clear hS; try clear tm
     intro tm hS
     refine o_skip hS rfl rfl rfl hg2 ?_; clear hS; try clear tm
     intro tm hS
     refine o_pickT hS (.inl rfl) rfl rfl hg2 rfl ?_; clear hS; try clear tm
     intro tm hS
     have hc2 : c3 = true := hc2.trans (by rw [hg2]; first | rfl | simp)
     subst hc2
     exact o_nil (hS.keep (ka_cons rfl (ka_cons rfl ka_nil)) (fun hI => (hI.sub (sc (sc (sc sn))))))
    ·refine o_pure hS (.inr ⟨_, _, _, _, rfl, rfl, rfl, hg2⟩) rfl rfl ?_; clear hS; try clear tm
     intro tm hS
     refine o_pure hS (.inr ⟨_, _, _, _, rfl, rfl, rfl, hg2⟩) rfl rfl ?_; clear hS; try clear tm
     intro tm hS
     refine o_ld1 (k := 0) hS (.inr ⟨_, _, _, _, rfl, rfl, rfl, hg2⟩) rfl rfl rfl (.inl rfl) Fu22 rfl rfl ?_; clear hS; try clear tm
     intro tm hS
     refine o_len (k := 2) (r := (rI .i64)) hS (.inr ⟨_, _, _, _, rfl, rfl, rfl, hg2⟩) rfl rfl rfl (.inl rfl) Fu22 rfl ?_; clear hS; try clear tm
     intro tm hS
     refine o_pure hS (.inr ⟨_, _, _, _, rfl, rfl, rfl, hg2⟩) rfl rfl ?_; clear hS; try clear tm
     intro tm hS
     refine o_pickF hS (.inl rfl) rfl rfl hg2 rfl ?_; clear hS; try clear tm
     intro tm hS
     have hc2 : c3 = (size1 != (v1.Data.length : Int)) := hc2.trans (by rw [hg2]; first | rfl | simp)
     subst hc2
     exact o_nil (hS.keep (ka_cons rfl (ka_cons rfl ka_nil)) (fun hI => (hI.sub (sc (sc (sc sn))))))
   intro tm H hS
   subst hc2
   refine o_nil (hR _ _ ?_)
   clear hR R
   refine c_cond hS rfl (fun hc => ?_) (fun hc => ?_)
   ·replace h0 := iteT hc h0
    refine c_reg fun R hR => ?_
    refine o_pure hS (.inl rfl) rfl rfl ?_; clear hS; try clear tm
    intro tm hS
    refine o_nil (hR _ _ ?_)
    clear hR R
    refine wpC.ret ?_
    obtain rfl := Option.some.inj h0
    refine Exists.intro _ (And.intro (rs_tmp hS rfl rs_nil) ?_)
    have hI := hS.inv
    exact ⟨rfl, (hI.sub sn)⟩
   ·replace h0 := iteF hc h0
    refine wpC.skip ?_
    refine c_reg fun R hR => ?_
    refine o_pure hS (.inl rfl) rfl rfl ?_; clear hS; try clear tm
    intro tm hS
    refine o_ld1 (k := 0) hS (.inl rfl) rfl rfl rfl (.inl rfl) Fu4 rfl rfl ?_; clear hS; try clear tm
    intro tm hS
    refine o_pure hS (.inl rfl) rfl rfl ?_; clear hS; try clear tm
    intro tm hS
    refine o_pure hS (.inl rfl) rfl rfl ?_; clear hS; try clear tm
    intro tm hS
    obtain ⟨c4, hc3, h0⟩ := bindS h0
    refine o_cutN 5 (J := fun tm H => S wm 45 tm H [(44, .bool c4)] [] Fr) ?_ ?_
    ·rcases Bool.eq_false_or_eq_true (!v1.Char) with hg3 | hg3
     ·replace hc3 := iteT hg3 hc3
      refine o_skip hS rfl rfl rfl hg3 ?_; clear hS; try clear tm
      intro tm hS
      refine o_skip hS rfl rfl rfl hg3 ?_; clear hS; try clear tm
      intro tm hS
      refine o_skip hS rfl rfl rfl hg3 ?_; clear hS; try clear tm
      intro tm hS
      refine o_skip hS rfl rfl rfl hg3 ?_; clear hS; try clear tm
      intro tm hS
      refine o_pickT hS (.inl rfl) rfl rfl hg3 rfl ?_; clear hS; try clear tm
      intro tm hS
      obtain rfl := Option.some.inj hc3
      exact o_nil (hS.keep (ka_cons rfl ka_nil) (fun hI => (hI.sub sn)))
     ·replace hc3 := iteF hg3 hc3
      refine o_pure hS (.inr ⟨_, _, _, _, rfl, rfl, rfl, hg3⟩) rfl rfl ?_; clear hS; try clear tm
      intro tm hS
      refine o_ld1 (k := 0) hS (.inr ⟨_, _, _, _, rfl, rfl, rfl, hg3⟩) rfl rfl rfl (.inl rfl) Fu22 rfl rfl ?_; clear hS; try clear tm
      intro tm hS
      obtain ⟨r1, hx2, hc3⟩ := bindS hc3
      refine o_call hS (.inr ⟨_, _, _, _, rfl, rfl, rfl, hg3⟩) rfl (fun wm' hw1 hw2 => wk39  v1.Data (fun x0 => M.value_Right_1 x0) 45 #[] [] (by simp [Ent.blk]) (fun x0 hI _ h0 => wk45  x0   hI h0) v3 ((hS.sel hw2).ad 2 rfl) hx2) (fun wm' res H hw' hp => ?_)
      obtain ⟨hres, hI⟩ := hp
      replace hres := hres.symm; subst hres
      replace hS : S wm 45 _ H ((42, .bool r1) :: _) ([] ++ _) Fr := hS.after rfl hw' hI
      clear hI hw'
      refine o_pure hS (.inr ⟨_, _, _, _, rfl, rfl, rfl, hg3⟩) rfl rfl ?_; clear hS; try clear tm
      intro tm hS
      refine o_pickF hS (.inl rfl) rfl rfl hg3 rfl ?_; clear hS; try clear tm
      intro tm hS
      obtain rfl := Option.some.inj hc3
      exact o_nil (hS.keep (ka_cons rfl ka_nil) (fun hI => (hI.sub sn)))
    intro tm H hS
    refine o_pure hS (.inl rfl) rfl rfl ?_; clear hS; try clear tm
    intro tm hS
    refine o_nil (hR _ _ ?_)
    clear hR R
    refine wpC.ret ?_
    obtain rfl := Option.some.inj h0
    refine Exists.intro _ (And.intro (rs_tmp hS rfl rs_nil) ?_)
    have hI := hS.inv
    exact ⟨rfl, (hI.sub sn)⟩
theorem wk41 {wm : Nat} {H : AHeap} {Fr : List Ent}  (draws1 : (List Int)) (at1 : Int) (n1 : Int)  (v1 : Value) (hI : Kn wm H [.fz (rI .u64) v1 draws1] Fr) {r : Int} (h0 : M.rand_drawn draws1 at1 n1 = some r) :
  wpF Try.prog ora wm 41 [v1, .int .i64 at1, .int .i64 n1] H (fun res H => res = .int .i64 r ∧ Kn wm H [] Fr) := by
 unfold M.rand_drawn at h0
 refine f_enter (n := 19) Try.func41 rfl (by simp) hI rfl rfl rfl fun tm hS => ?_
 clear hI
 refine c_reg fun R hR => ?_
 refine o_pure hS (.inl rfl) rfl rfl ?_; clear hS; try clear tm
 intro tm hS
 refine o_nil (hR _ _ ?_)
 clear hR R
 refine c_seqS ?_
 refine c_reg fun R hR => ?_
 refine o_pure hS (.inl rfl) rfl rfl ?_; clear hS; try clear tm
 intro tm hS
 refine o_pure hS (.inl rfl) rfl rfl ?_; clear hS; try clear tm
 intro tm hS
 refine o_len (k := 0) (r := (rI .u64)) hS (.inl rfl) rfl rfl rfl (.inl rfl) Fu30 rfl ?_; clear hS; try clear tm
 intro tm hS
 refine o_pure hS (.inl rfl) rfl rfl ?_; clear hS; try clear tm
 intro tm hS
 refine o_nil (hR _ _ ?_)
 clear hR R
 refine c_cond hS rfl (fun hc => ?_) (fun hc => ?_)
 ·replace h0 := iteT hc h0
  refine c_reg fun R hR => ?_
  refine o_pure hS (.inl rfl) rfl rfl ?_; clear hS; try clear tm
  intro tm hS
  refine o_nil (hR _ _ ?_)
  clear hR R
  refine wpC.ret ?_
  obtain rfl := Option.some.inj h0
  refine Exists.intro _ (And.intro (rs_tmp hS rfl rs_nil) ?_)
  have hI := hS.inv
  exact ⟨rfl, (hI.sub sn)⟩
 ·replace h0 := iteF hc h0
  refine wpC.skip ?_
  refine c_reg fun R hR => ?_
  refine o_pure hS (.inl rfl) rfl rfl ?_; clear hS; try clear tm
  intro tm hS
  refine o_pure hS (.inl rfl) rfl rfl ?_; clear hS; try clear tm
  intro tm hS
  obtain ⟨y1, hx1, h0⟩ := bindS h0
  refine o_ixA (k := 0) (r := (rI .u64)) hS (.inl rfl) rfl rfl rfl rfl (.inl rfl) Fu30 Fs44 hx1 ?_; clear hS; try clear tm
  intro tm hS
  refine o_ldF (r := (rI .u64)) (k := 0) hS (.inl rfl) rfl rfl rfl (.inl rfl) hx1 Fu44 rfl (flat_I _) rfl ?_; clear hS; try clear tm
  intro tm hS
  refine o_pure hS (.inl rfl) rfl rfl ?_; clear hS; try clear tm
  intro tm hS
  refine o_pure hS (.inl rfl) rfl rfl ?_; clear hS; try clear tm
  intro tm hS
  obtain ⟨q1, hx2, h0⟩ := bindS h0
  refine o_rem hS (.inl rfl) rfl rfl rfl hx2 ?_; clear hS; try clear tm
  intro tm hS
  refine o_pure hS (.inl rfl) rfl rfl ?_; clear hS; try clear tm
  intro tm hS
  refine o_pure hS (.inl rfl) rfl rfl ?_; clear hS; try clear tm
  intro tm hS
  refine o_nil (hR _ _ ?_)
  clear hR R
  refine wpC.ret ?_
  obtain rfl := Option.some.inj h0
  refine Exists.intro _ (And.intro (rs_tmp hS rfl rs_nil) ?_)
  have hI := hS.inv
  exact ⟨rfl, (hI.sub sn)⟩
theorem wk51 {wm : Nat} {H : AHeap} {Fr : List Ent} (s1 : (List Int)) (v1 : Value) (hI : Kn wm H [.fz (rI .i64) v1 s1] Fr) {r : (List Int)} (h0 : M.slices_Clone__int64 s1 = some r) :
  wpF Try.prog ora wm 51 [v1] H (fun res H => ∃ v2, res = v2 ∧ Kn wm H [.own (rI .i64) v2 r] Fr) := by
 unfold M.slices_Clone__int64 at h0
 refine f_enter (n := 8) Try.func51 rfl (by simp) hI rfl rfl rfl fun tm hS => ?_
 refine c_reg fun R hR => ?_
 refine o_pure hS (.inl rfl) rfl rfl fun tm hS => ?_
 refine o_nil (hR _ _ ?_)
 refine c_seqS ?_
 refine c_reg fun R hR => ?_
 refine o_pure hS (.inl rfl) rfl rfl fun tm hS => ?_
 refine o_nilcmp (k := 0) (r := (rI .i64)) hS (.inl rfl) rfl rfl rfl rfl (.inl rfl) Fu22 (fun hl tm hS => ?_) (fun tm hS => ?_)
 ·subst hl
  have hr : r = [] := by simpa [app] using h0.symm
  subst hr
  refine o_nil (hR _ _ ?_)
  refine c_cond hS rfl (fun _ => ?_) (fun h => by cases h)
  refine c_reg fun R hR => ?_
  refine o_pure hS (.inl rfl) rfl rfl fun tm hS => ?_
  refine o_nil (hR _ _ ?_)
  refine wpC.ret ?_
  replace hS := hS.nilOwn (rI .i64)
  refine Exists.intro _ (And.intro (rs_tmp hS rfl rs_nil) ?_)
  exact ⟨_, rfl, hS.inv.take 1⟩
 ·refine o_nil (hR _ _ ?_)
  refine c_cond hS rfl (fun h => by cases h) (fun _ => ?_)
  refine wpC.skip ?_
  refine c_reg fun R hR => ?_
  refine o_lit (r := (rI .i64)) (l := []) hS (.inl rfl) rfl Fl22 rfl rfl rfl .nil rfl rfl ri_nil rfl fun v2 tm H hS => ?_
  refine o_pure hS (.inl rfl) rfl rfl fun tm hS => ?_
  refine o_appL (k1 := 0) (k2 := 1) (r := (rI .i64)) hS (.inl rfl) rfl rfl rfl rfl rfl (.inl rfl) rfl Fe22_22 h0 fun v3 tm H hS => ?_
  refine o_pure hS (.inl rfl) rfl rfl fun tm hS => ?_
  refine o_nil (hR _ _ ?_)
  refine wpC.ret ?_
  refine Exists.intro _ (And.intro (rs_tmp hS rfl rs_nil) ?_)
  exact ⟨_, rfl, hS.inv.take 1⟩
theorem wk36 {wm : Nat} {H : AHeap} {Fr : List Ent}  (l1 : (List Int))  (v1 : Value) (hI : Kn wm H [.fz (rI .i64) v1 l1] Fr) {r : Val} (h0 : M.value_Vector l1 = some r) :
  wpF Try.prog ora wm 36 [v1] H (fun res H => ∃ v5 v6, res = .agg #[.bool r.Char, v5, v6] ∧ Kn wm H [.own (rI .i64) v5 r.Shape, .own (rI .i64) v6 r.Data] Fr) := by
 unfold M.value_Vector at h0
 refine f_enter (n := 14) Try.func36 rfl (by simp) hI rfl rfl rfl fun tm hS => ?_
 clear hI
 refine c_reg fun R hR => ?_
 refine o_alloc hS (.inl rfl) rfl Fz25 (by decide) ?_; clear hS; try clear tm H
 intro b1 tm H hS
 refine o_nil (hR _ _ ?_)
 clear hR R
 refine c_reg fun R hR => ?_
 refine o_pure hS (.inl rfl) rfl rfl ?_; clear hS; try clear tm
 intro tm hS
 refine o_pure hS (.inl rfl) rfl rfl ?_; clear hS; try clear tm
 intro tm hS
 refine o_len (k := 1) (r := (rI .i64)) hS (.inl rfl) rfl rfl rfl (.inl rfl) Fu22 rfl ?_; clear hS; try clear tm
 intro tm hS
 refine o_pure hS (.inl rfl) rfl rfl ?_; clear hS; try clear tm
 intro tm hS
 obtain ⟨l2, hx1, h0⟩ := bindS h0
 refine o_sl (k := 1) (r := (rI .i64)) hS (.inl rfl) rfl rfl rfl Fu22 Fs2 rfl rfl hx1 ?_; clear hS; try clear tm
 intro v2 tm hS
 obtain ⟨r1, hx2, h0⟩ := bindS h0
 refine o_call hS (.inl rfl) rfl (fun wm' hw1 hw2 => wk51  l2  v2 ((hS.sel hw2).ad 0 rfl) hx2) (fun wm' res H hw' hp => ?_)
 obtain ⟨v3, hres, hI⟩ := hp
 replace hres := hres.symm; subst hres
 replace hS : S wm 14 _ H ((8, v3) :: _) ([.own (rI .i64) v3 r1] ++ _) Fr := hS.after rfl hw' hI
 clear hI hw'
 refine o_pure hS (.inl rfl) rfl rfl ?_; clear hS; try clear tm
 intro tm hS
 refine o_nil (hR _ _ ?_)
 clear hR R
 refine c_reg fun R hR => ?_
 refine o_pure hS (.inl rfl) rfl rfl ?_; clear hS; try clear tm
 intro tm hS
 refine o_len (k := 0) (r := (rI .i64)) hS (.inl rfl) rfl rfl rfl (.inr (.inl rfl)) Fu22 rfl ?_; clear hS; try clear tm
 intro tm hS
 refine o_lit (r := (rI .i64)) (l := [(r1.length : Int)]) hS (.inl rfl) rfl Fl23 rfl rfl rfl (.cons rfl .nil) rfl rfl (ri_1 (rd_flat fun _ => rfl) ri_nil) rfl ?_; clear hS; try clear tm H
 intro v4 tm H hS
 refine o_pure hS (.inl rfl) rfl rfl ?_; clear hS; try clear tm
 intro tm hS
 refine o_build hS (.inl rfl) rfl Fb25 rfl (.cons (cells_one (hS.one (k := 0) rfl (.inr (.inr rfl)))) (.cons (cells_one (hS.one (k := 1) rfl (.inr (.inl rfl)))) .nil)) rfl ?_; clear hS; try clear tm
 intro tm hS
 refine o_st (k := 3) hS (.inl rfl) rfl rfl rfl Fs25 rfl rfl (all_cons rfl (all_cons (hS.one (k := 0) rfl (.inr (.inr rfl))) (all_cons (hS.one (k := 1) rfl (.inr (.inl rfl))) all_nil))) rfl ?_; clear hS; try clear H
 intro H hS
 refine o_nil (hR _ _ ?_)
 clear hR R
 refine wpC.ret ?_
 obtain rfl := Option.some.inj h0
 replace hS := hS.litOwn (k := 0) rfl
 refine Exists.intro _ (And.intro (rs_cellA (k := 3) hS rfl rfl (.inl rfl) Fu25 rfl Fs25 rfl rs_nil) ?_)
 have hI := hS.inv
 exact ⟨v4, v3, rfl, (hI.sub (sc (sc sn)))⟩
theorem wk22 {wm : Nat} {H : AHeap} {Fr : List Ent}  (a1 : Val) (b1 : Val) (draws1 : (List Int)) (at1 : Int)  (v1 : Value) (v2 : Value) (v3 : Value) (v4 : Value) (v5 : Value) (hI : Kn wm H [.fz (rI .i64) v1 a1.Shape, .fz (rI .i64) v2 a1.Data, .fz (rI .i64) v3 b1.Shape, .fz (rI .i64) v4 b1.Data, .fz (rI .u64) v5 draws1] Fr) {r : Val × Int × Int} (h0 : M.rand_Deal a1 b1 draws1 at1 = some r) :
  wpF Try.prog ora wm 22 [.agg #[.bool a1.Char, v1, v2], .agg #[.bool b1.Char, v3, v4], v5, .int .i64 at1] H (fun res H => ∃ v12 v13, res = .tuple #[.agg #[.bool r.1.Char, v12, v13], .int .i64 r.2.1, .int .i64 r.2.2] ∧ Kn wm H [.own (rI .i64) v12 r.1.Shape, .own (rI .i64) v13 r.1.Data] Fr) := by
 unfold M.rand_Deal at h0
 refine f_enter (n := 143) Try.func22 rfl (by simp) hI rfl rfl rfl fun tm hS => ?_
 clear hI
 refine c_reg fun R hR => ?_
 refine o_box hS (.inl rfl) rfl rfl rfl (all_cons rfl (all_cons (hS.one (k := 0) rfl (.inl rfl)) (all_cons (hS.one (k := 1) rfl (.inl rfl)) all_nil))) ?_; clear hS; try clear tm H
 intro b2 tm H hS
 refine o_box hS (.inl rfl) rfl rfl rfl (all_cons rfl (all_cons (hS.one (k := 3) rfl (.inl rfl)) (all_cons (hS.one (k := 4) rfl (.inl rfl)) all_nil))) ?_; clear hS; try clear tm H
 intro b3 tm H hS
 refine o_alloc hS (.inl rfl) rfl Fz25 (by decide) ?_; clear hS; try clear tm H
 intro b4 tm H hS
 refine o_pure hS (.inl rfl) rfl rfl ?_; clear hS; try clear tm
 intro tm hS
 refine o_pure hS (.inl rfl) rfl rfl ?_; clear hS; try clear tm
 intro tm hS
 refine o_nil (hR _ _ ?_)
 clear hR R
 refine c_reg fun R hR => ?_
 refine o_ldA (k := 2) hS (.inl rfl) rfl rfl rfl (.inl rfl) Fu25 rfl Fs25 rfl ?_; clear hS; try clear tm
 intro tm hS
 obtain ⟨⟨r1, r2⟩, hx1, h0⟩ := bindS h0
 refine o_call hS (.inl rfl) rfl (fun wm' hw1 hw2 => wk33  a1  v1 v2 (((hS.sel hw2).ad 4 rfl).ad 3 rfl) hx1) (fun wm' res H hw' hp => ?_)
 obtain ⟨hres, hI⟩ := hp
 replace hres := hres.symm; subst hres
 replace hS : S wm 143 _ H ((21, .tuple #[.int .i64 r1, .bool r2]) :: _) ([] ++ _) Fr := hS.after rfl hw' hI
 clear hI hw'
 refine o_pure hS (.inl rfl) rfl rfl ?_; clear hS; try clear tm
 intro tm hS
 refine o_pure hS (.inl rfl) rfl rfl ?_; clear hS; try clear tm
 intro tm hS
 refine o_pure hS (.inl rfl) rfl rfl ?_; clear hS; try clear tm
 intro tm hS
 refine o_pure hS (.inl rfl) rfl rfl ?_; clear hS; try clear tm
 intro tm hS
 refine o_pure hS (.inl rfl) rfl rfl ?_; clear hS; try clear tm
 intro tm hS
 refine o_nil (hR _ _ ?_)
 clear hR R
 refine c_reg fun R hR => ?_
 refine o_ldA (k := 1) hS (.inl rfl) rfl rfl rfl (.inl rfl) Fu25 rfl Fs25 rfl ?_; clear hS; try clear tm
 intro tm hS
 obtain ⟨⟨r3, r4⟩, hx2, h0⟩ := bindS h0
 refine o_call hS (.inl rfl) rfl (fun wm' hw1 hw2 => wk33  b1  v3 v4 (((hS.sel hw2).ad 6 rfl).ad 5 rfl) hx2) (fun wm' res H hw' hp => ?_)
 obtain ⟨hres, hI⟩ := hp
 replace hres := hres.symm; subst hres
 replace hS : S wm 143 _ H ((26, .tuple #[.int .i64 r3, .bool r4]) :: _) ([] ++ _) Fr := hS.after rfl hw' hI
 clear hI hw'
 refine o_pure hS (.inl rfl) rfl rfl ?_; clear hS; try clear tm
 intro tm hS
 refine o_pure hS (.inl rfl) rfl rfl ?_; clear hS; try clear tm
 intro tm hS
 refine o_pure hS (.inl rfl) rfl rfl ?_; clear hS; try clear tm
 intro tm hS
 refine o_pure hS (.inl rfl) rfl rfl ?_; clear hS; try clear tm
 intro tm hS
 refine o_pure hS (.inl rfl) rfl rfl ?_; clear hS; try clear tm
 intro tm hS
 refine o_nil (hR _ _ ?_)
 clear hR R
 refine c_seqS ?_
 refine wpC.block ?_
 refine c_reg fun R hR => ?_
 refine o_ldA (k := 2) hS (.inl rfl) rfl rfl rfl (.inl rfl) Fu25 rfl Fs25 rfl ?_; clear hS; try clear tm
 intro tm hS
 obtain ⟨r5, hx3, h0⟩ := bindS h0
 refine o_call hS (.inl rfl) rfl (fun wm' hw1 hw2 => wk30  a1  v1 v2 (((hS.sel hw2).ad 4 rfl).ad 3 rfl) hx3) (fun wm' res H hw' hp => ?_)
 obtain ⟨hres, hI⟩ := hp
 replace hres := hres.symm; subst hres
 replace hS : S wm 143 _ H ((31, .bool r5) :: _) ([] ++ _) Fr := hS.after rfl hw' hI
 clear hI hw'
 refine o_pure hS (.inl rfl) rfl rfl ?_; clear hS; try clear tm
 intro tm hS
 refine o_pure hS (.inl rfl) rfl rfl ?_; clear hS; try clear tm
 intro tm hS
 obtain ⟨c1, hc1, h0⟩ := bindS h0
 refine o_cutN 4 (J := fun tm H => S wm 143 tm H [(37, .bool c1), (2, v5), (3, .int .i64 at1), (4, .pointer (some ⟨b2, 0, none⟩)), (5, .pointer (some ⟨b3, 0, none⟩)), (8, .pointer (some ⟨b4, 0, none⟩)), (11, .int .i64 r1), (12, .bool r2), (13, .int .i64 r3), (14, .bool r4)] [.box b4 [.bool false, (.slice none 0 0), (.slice none 0 0)], .box b3 [.bool b1.Char, v3, v4], .box b2 [.bool a1.Char, v1, v2], .fz (rI .i64) v1 a1.Shape, .fz (rI .i64) v2 a1.Data, .fz (rI .i64) v3 b1.Shape, .fz (rI .i64) v4 b1.Data, .fz (rI .u64) v5 draws1] Fr) ?_ ?_
 ·rcases Bool.eq_false_or_eq_true (!r5) with hg1 | hg1
  ·replace hc1 := iteT hg1 hc1
   refine o_skip hS rfl rfl rfl hg1 ?_; clear hS; try clear tm
   intro tm hS
   refine o_skip hS rfl rfl rfl hg1 ?_; clear hS; try clear tm
   intro tm hS
   refine o_skip hS rfl rfl rfl hg1 ?_; clear hS; try clear tm
   intro tm hS
   refine o_pickT hS (.inl rfl) rfl rfl hg1 rfl ?_; clear hS; try clear tm
   intro tm hS
   obtain rfl := Option.some.inj hc1
   exact o_nil (hS.keep (ka_cons rfl (ka_cons rfl (ka_cons rfl (ka_cons rfl (ka_cons rfl (ka_cons rfl (ka_cons rfl (ka_cons rfl (ka_cons rfl (ka_cons rfl ka_nil)))))))))) (fun hI => (hI.sub (sc (sc (sc (sc (sc (sc (sc (sc sn)))))))))))
  ·replace hc1 := iteF hg1 hc1
   refine o_ldA (k := 1) hS (.inr ⟨_, _, _, _, rfl, rfl, rfl, hg1⟩) rfl rfl rfl (.inl rfl) Fu25 rfl Fs25 rfl ?_; clear hS; try clear tm
   intro tm hS
   obtain ⟨r6, hx4, hc1⟩ := bindS hc1
   refine o_call hS (.inr ⟨_, _, _, _, rfl, rfl, rfl, hg1⟩) rfl (fun wm' hw1 hw2 => wk30  b1  v3 v4 (((hS.sel hw2).ad 6 rfl).ad 5 rfl) hx4) (fun wm' res H hw' hp => ?_)
   obtain ⟨hres, hI⟩ := hp
   replace hres := hres.symm; subst hres
   replace hS : S wm 143 _ H ((35, .bool r6) :: _) ([] ++ _) Fr := hS.after rfl hw' hI
   clear hI hw'
   refine o_pure hS (.inr ⟨_, _, _, _, rfl, rfl, rfl, hg1⟩) rfl rfl ?_; clear hS; try clear tm
   intro tm hS
   refine o_pickF hS (.inl rfl) rfl rfl hg1 rfl ?_; clear hS; try clear tm
   intro tm hS
   obtain rfl := Option.some.inj hc1
   exact o_nil (hS.keep (ka_cons rfl (ka_cons rfl (ka_cons rfl (ka_cons rfl (ka_cons rfl (ka_cons rfl (ka_cons rfl (ka_cons rfl (ka_cons rfl (ka_cons rfl ka_nil)))))))))) (fun hI => (hI.sub (sc (sc (sc (sc (sc (sc (sc (sc sn)))))))))))
 intro tm H hS
 refine o_pure hS (.inl rfl) rfl rfl ?_; clear hS; try clear tm
 intro tm hS
 obtain ⟨c2, hc2⟩ : ∃ x : Bool, x = (c1 || (decide (at1 < 0))) := ⟨_, rfl⟩
 refine o_cutN 3 (J := fun tm H => S wm 143 tm H [(41, .bool c2), (2, v5), (3, .int .i64 at1), (4, .pointer (some ⟨b2, 0, none⟩)), (5, .pointer (some ⟨b3, 0, none⟩)), (8, .pointer (some ⟨b4, 0, none⟩)), (11, .int .i64 r1), (12, .bool r2), (13, .int .i64 r3), (14, .bool r4)] [.box b4 [.bool false, (.slice none 0 0), (.slice none 0 0)], .box b3 [.bool b1.Char, v3, v4], .box b2 [.bool a1.Char, v1, v2], .fz (rI .i64) v1 a1.Shape, .fz (rI .i64) v2 a1.Data, .fz (rI .i64) v3 b1.Shape, .fz (rI .i64) v4 b1.Data, .fz (rI .u64) v5 draws1] Fr) ?_ ?_
 ·rcases Bool.eq_false_or_eq_true c1 with hg2 | hg2
  ·refine o_skip hS rfl rfl rfl hg2 ?_; clear hS; try clear tm
   intro tm hS
   refine o_skip hS rfl rfl rfl hg2 ?_; clear hS; try clear tm
   intro tm hS
   refine o_pickT hS (.inl rfl) rfl rfl hg2 rfl ?_; clear hS; try clear tm
   intro tm hS
   have hc2 : c2 = true := hc2.trans (by rw [hg2]; first | rfl | simp)
   subst hc2
   exact o_nil (hS.keep (ka_cons rfl (ka_cons rfl (ka_cons rfl (ka_cons rfl (ka_cons rfl (ka_cons rfl (ka_cons rfl (ka_cons rfl (ka_cons rfl (ka_cons rfl ka_nil)))))))))) (fun hI => (hI.sub (sc (sc (sc (sc (sc (sc (sc (sc sn)))))))))))
  ·refine o_pure hS (.inr ⟨_, _, _, _, rfl, rfl, rfl, hg2⟩) rfl rfl ?_; clear hS; try clear tm
   intro tm hS
   refine o_pure hS (.inr ⟨_, _, _, _, rfl, rfl, rfl, hg2⟩) rfl rfl ?_; clear hS; try clear tm
   intro tm hS
   refine o_pickF hS (.inl rfl) rfl rfl hg2 rfl ?_; clear hS; try clear tm
   intro tm hS
   have hc2 : c2 = (decide (at1 < 0)) := hc2.trans (by rw [hg2]; first | rfl | simp)
   subst hc2
   exact o_nil (hS.keep (ka_cons rfl (ka_cons rfl (ka_cons rfl (ka_cons rfl (ka_cons rfl (ka_cons rfl (ka_cons rfl (ka_cons rfl (ka_cons rfl (ka_cons rfl ka_nil)))))))))) (fun hI => (hI.sub (sc (sc (sc (sc (sc (sc (sc (sc sn)))))))))))
 intro tm H hS
 subst hc2
 refine o_pure hS (.inl rfl) rfl rfl ?_; clear hS; try clear tm
 intro tm hS
 obtain ⟨c3, hc3⟩ : ∃ x : Bool, x = ((c1 || (decide (at1 < 0))) || (decide (at1 > 1099511627776))) := ⟨_, rfl⟩
 refine o_cutN 3 (J := fun tm H => S wm 143 tm H [(45, .bool c3), (2, v5), (3, .int .i64 at1), (4, .pointer (some ⟨b2, 0, none⟩)), (5, .pointer (some ⟨b3, 0, none⟩)), (8, .pointer (some ⟨b4, 0, none⟩)), (11, .int .i64 r1), (12, .bool r2), (13, .int .i64 r3), (14, .bool r4)] [.box b4 [.bool false, (.slice none 0 0), (.slice none 0 0)], .box b3 [.bool b1.Char, v3, v4], .box b2 [.bool a1.Char, v1, v2], .fz (rI .i64) v1 a1.Shape, .fz (rI .i64) v2 a1.Data, .fz (rI .i64) v3 b1.Shape, .fz (rI .i64) v4 b1.Data, .fz (rI .u64) v5 draws1] Fr) ?_ ?_
 ·rcases Bool.eq_false_or_eq_true (c1 || (decide (at1 < 0))) with hg3 | hg3
  ·refine o_skip hS rfl rfl rfl hg3 ?_; clear hS; try clear tm
   intro tm hS
   refine o_skip hS rfl rfl rfl hg3 ?_; clear hS; try clear tm
   intro tm hS
   refine o_pickT hS (.inl rfl) rfl rfl hg3 rfl ?_; clear hS; try clear tm
   intro tm hS
   have hc3 : c3 = true := hc3.trans (by rw [hg3]; first | rfl | simp)
   subst hc3
   exact o_nil (hS.keep (ka_cons rfl (ka_cons rfl (ka_cons rfl (ka_cons rfl (ka_cons rfl (ka_cons rfl (ka_cons rfl (ka_cons rfl (ka_cons rfl (ka_cons rfl ka_nil)))))))))) (fun hI => (hI.sub (sc (sc (sc (sc (sc (sc (sc (sc sn)))))))))))
  ·refine o_pure hS (.inr ⟨_, _, _, _, rfl, rfl, rfl, hg3⟩) rfl rfl ?_; clear hS; try clear tm
   intro tm hS
   refine o_pure hS (.inr ⟨_, _, _, _, rfl, rfl, rfl, hg3⟩) rfl rfl ?_; clear hS; try clear tm
   intro tm hS
   refine o_pickF hS (.inl rfl) rfl rfl hg3 rfl ?_; clear hS; try clear tm
   intro tm hS
   have hc3 : c3 = (decide (at1 > 1099511627776)) := hc3.trans (by rw [hg3]; first | rfl | simp)
   subst hc3
   exact o_nil (hS.keep (ka_cons rfl (ka_cons rfl (ka_cons rfl (ka_cons rfl (ka_cons rfl (ka_cons rfl (ka_cons rfl (ka_cons rfl (ka_cons rfl (ka_cons rfl ka_nil)))))))))) (fun hI => (hI.sub (sc (sc (sc (sc (sc (sc (sc (sc sn)))))))))))
 intro tm H hS
 subst hc3
 refine o_pure hS (.inl rfl) rfl rfl ?_; clear hS; try clear tm
 intro tm hS
 refine o_nil (hR _ _ ?_)
 clear hR R
 refine c_cond hS rfl (fun hc => ?_) (fun hc => ?_)
 ·replace h0 := iteT hc h0
  refine c_reg fun R hR => ?_
  refine o_build hS (.inl rfl) rfl Fb25 rfl .nil rfl ?_; clear hS; try clear tm
  intro tm hS
  refine o_pure hS (.inl rfl) rfl rfl ?_; clear hS; try clear tm
  intro tm hS
  refine o_st (k := 0) hS (.inl rfl) rfl rfl rfl Fs25 rfl rfl (all_cons rfl (all_cons rfl (all_cons rfl all_nil))) rfl ?_; clear hS; try clear H
  intro H hS
  refine o_pure hS (.inl rfl) rfl rfl ?_; clear hS; try clear tm
  intro tm hS
  refine o_pure hS (.inl rfl) rfl rfl ?_; clear hS; try clear tm
  intro tm hS
  refine o_nil (hR _ _ ?_)
  clear hR R
  refine wpC.ret ?_
  obtain rfl := Option.some.inj h0
  replace hS := hS.nilOwn (rI .i64)
  replace hS := hS.nilOwn (rI .i64)
  refine Exists.intro _ (And.intro (rs_cellA (k := 2) hS rfl rfl (.inl rfl) Fu25 rfl Fs25 rfl (rs_tmp hS rfl (rs_tmp hS rfl rs_nil))) ?_)
  have hI := hS.inv
  exact ⟨(.slice none 0 0), (.slice none 0 0), rfl, (((hI.pull 0 rfl).pull 1 rfl).take 2)⟩
 ·replace h0 := iteF hc h0
  refine c_reg fun R hR => ?_
  refine o_pure hS (.inl rfl) rfl rfl ?_; clear hS; try clear tm
  intro tm hS
  refine o_ld1 (k := 2) hS (.inl rfl) rfl rfl rfl (.inl rfl) Fu23 rfl rfl ?_; clear hS; try clear tm
  intro tm hS
  refine o_len (k := 3) (r := (rI .i64)) hS (.inl rfl) rfl rfl rfl (.inl rfl) Fu23 rfl ?_; clear hS; try clear tm
  intro tm hS
  refine o_pure hS (.inl rfl) rfl rfl ?_; clear hS; try clear tm
  intro tm hS
  refine o_pure hS (.inl rfl) rfl rfl ?_; clear hS; try clear tm
  intro tm hS
  obtain ⟨c4, hc4⟩ : ∃ x : Bool, x = ((decide ((a1.Shape.length : Int) > 1)) || (decide ((b1.Shape.length : Int) > 1))) := ⟨_, rfl⟩
  refine o_cutN 5 (J := fun tm H => S wm 143 tm H [(58, .bool c4), (2, v5), (3, .int .i64 at1), (4, .pointer (some ⟨b2, 0, none⟩)), (5, .pointer (some ⟨b3, 0, none⟩)), (8, .pointer (some ⟨b4, 0, none⟩)), (11, .int .i64 r1), (12, .bool r2), (13, .int .i64 r3), (14, .bool r4)] [.box b4 [.bool false, (.slice none 0 0), (.slice none 0 0)], .box b3 [.bool b1.Char, v3, v4], .box b2 [.bool a1.Char, v1, v2], .fz (rI .i64) v1 a1.Shape, .fz (rI .i64) v2 a1.Data, .fz (rI .i64) v3 b1.Shape, .fz (rI .i64) v4 b1.Data, .fz (rI .u64) v5 draws1] Fr) ?_ ?_
  ·rcases Bool.eq_false_or_eq_true (decide ((a1.Shape.length : Int) > 1)) with hg4 | hg4
   ·refine o_skip hS rfl rfl rfl hg4 ?_; clear hS; try clear tm
    intro tm hS
    refine o_skip hS rfl rfl rfl hg4 ?_; clear hS; try clear tm
    intro tm hS
    refine o_skip hS rfl rfl rfl hg4 ?_; clear hS; try clear tm
    intro tm hS
    refine o_skip hS rfl rfl rfl hg4 ?_; clear hS; try clear tm
    intro tm hS
    refine o_pickT hS (.inl rfl) rfl rfl hg4 rfl ?_; clear hS; try clear tm
    intro tm hS
    have hc4 : c4 = true := hc4.trans (by rw [hg4]; first | rfl | simp)
    subst hc4
    exact o_nil (hS.keep (ka_cons rfl (ka_cons rfl (ka_cons rfl (ka_cons rfl (ka_cons rfl (ka_cons rfl (ka_cons rfl (ka_cons rfl (ka_cons rfl (ka_cons rfl ka_nil)))))))))) (fun hI => (hI.sub (sc (sc (sc (sc (sc (sc (sc (sc sn)))))))))))
   ·refine o_pure hS (.inr ⟨_, _, _, _, rfl, rfl, rfl, hg4⟩) rfl rfl ?_; clear hS; try clear tm
    intro tm hS
    refine o_ld1 (k := 1) hS (.inr ⟨_, _, _, _, rfl, rfl, rfl, hg4⟩) rfl rfl rfl (.inl rfl) Fu23 rfl rfl ?_; clear hS; try clear tm
    intro tm hS
    refine o_len (k := 5) (r := (rI .i64)) hS (.inr ⟨_, _, _, _, rfl, rfl, rfl, hg4⟩) rfl rfl rfl (.inl rfl) Fu23 rfl ?_; clear hS; try clear tm
    intro tm hS
    refine o_pure hS (.inr ⟨_, _, _, _, rfl, rfl, rfl, hg4⟩) rfl rfl ?_; clear hS; try clear tm
    intro tm hS
    refine o_pickF hS (.inl rfl) rfl rfl hg4 rfl ?_; clear hS; try clear tm
    intro tm hS
    have hc4 : c4 = (decide ((b1.Shape.length : Int) > 1)) := hc4.trans (by rw [hg4]; first | rfl | simp)
    subst hc4
    exact o_nil (hS.keep (ka_cons rfl (ka_cons rfl (ka_cons rfl (ka_cons rfl (ka_cons rfl (ka_cons rfl (ka_cons rfl (ka_cons rfl (ka_cons rfl (ka_cons rfl ka_nil)))))))))) (fun hI => (hI.sub (sc (sc (sc (sc (sc (sc (sc (sc sn)))))))))))
  intro tm H hS
  subst hc4
  refine o_pure hS (.inl rfl) rfl rfl ?_; clear hS; try clear tm
  intro tm hS
  refine o_nil (hR _ _ ?_)
  clear hR R
  refine c_cond hS rfl (fun hc => ?_) (fun hc => ?_)
  ·replace h0 := iteT hc h0
   refine c_reg fun R hR => ?_
   refine o_build hS (.inl rfl) rfl Fb25 rfl .nil rfl ?_; clear hS; try clear tm
   intro tm hS
   refine o_pure hS (.inl rfl) rfl rfl ?_; clear hS; try clear tm
   intro tm hS
   refine o_st (k := 0) hS (.inl rfl) rfl rfl rfl Fs25 rfl rfl (all_cons rfl (all_cons rfl (all_cons rfl all_nil))) rfl ?_; clear hS; try clear H
   intro H hS
   refine o_pure hS (.inl rfl) rfl rfl ?_; clear hS; try clear tm
   intro tm hS
   refine o_pure hS (.inl rfl) rfl rfl ?_; clear hS; try clear tm
   intro tm hS
   refine o_nil (hR _ _ ?_)
   clear hR R
   refine wpC.ret ?_
   obtain rfl := Option.some.inj h0
   replace hS := hS.nilOwn (rI .i64)
   replace hS := hS.nilOwn (rI .i64)
   refine Exists.intro _ (And.intro (rs_cellA (k := 2) hS rfl rfl (.inl rfl) Fu25 rfl Fs25 rfl (rs_tmp hS rfl (rs_tmp hS rfl rs_nil))) ?_)
   have hI := hS.inv
   exact ⟨(.slice none 0 0), (.slice none 0 0), rfl, (((hI.pull 0 rfl).pull 1 rfl).take 2)⟩
  ·replace h0 := iteF hc h0
   refine c_reg fun R hR => ?_
   refine o_pure hS (.inl rfl) rfl rfl ?_; clear hS; try clear tm
   intro tm hS
   refine o_ld1 (k := 2) hS (.inl rfl) rfl rfl rfl (.inl rfl) Fu22 rfl rfl ?_; clear hS; try clear tm
   intro tm hS
   refine o_len (k := 4) (r := (rI .i64)) hS (.inl rfl) rfl rfl rfl (.inl rfl) Fu22 rfl ?_; clear hS; try clear tm
   intro tm hS
   refine o_pure hS (.inl rfl) rfl rfl ?_; clear hS; try clear tm
   intro tm hS
   refine o_pure hS (.inl rfl) rfl rfl ?_; clear hS; try clear tm
   intro tm hS
   obtain ⟨c5, hc5⟩ : ∃ x : Bool, x = (((a1.Data.length : Int) != 1) || ((b1.Data.length : Int) != 1)) := ⟨_, rfl⟩
   refine o_cutN 5 (J := fun tm H => S wm 143 tm H [(71, .bool c5), (2, v5), (3, .int .i64 at1), (8, .pointer (some ⟨b4, 0, none⟩)), (11, .int .i64 r1), (12, .bool r2), (13, .int .i64 r3), (14, .bool r4)] [.box b4 [.bool false, (.slice none 0 0), (.slice none 0 0)], .fz (rI .u64) v5 draws1] Fr) ?_ ?_
   ·rcases Bool.eq_false_or_eq_true ((a1.Data.length : Int) != 1) with hg5 | hg5
    ·refine o_skip hS rfl rfl rfl hg5 ?_; clear hS; try clear tm
     intro tm hS
     refine o_skip hS rfl rfl rfl hg5 ?_; clear hS; try clear tm
     intro tm hS
     refine o_skip hS rfl rfl rfl hg5 ?_; clear hS; try clear tm
     intro tm hS
     refine o_skip hS rfl rfl rfl hg5 ?_; clear hS; try clear tm
     intro tm hS
     refine o_pickT hS (.inl rfl) rfl rfl hg5 rfl ?_; clear hS; try clear tm
     intro tm hS
     have hc5 : c5 = true := hc5.trans (by rw [hg5]; first | rfl | simp)
     subst hc5
     exact o_nil (hS.keep (ka_cons rfl (ka_cons rfl (ka_cons rfl (ka_cons rfl (ka_cons rfl (ka_cons rfl (ka_cons rfl (ka_cons rfl ka_nil)))))))) (fun hI => (hI.sub (sc (sd (sd (sd (sd (sd (sd (sc sn)))))))))))
    ·refine o_pure hS (.inr ⟨_, _, _, _, rfl, rfl, rfl, hg5⟩) rfl rfl ?_; clear hS; try clear tm
     intro tm hS
     refine o_ld1 (k := 1) hS (.inr ⟨_, _, _, _, rfl, rfl, rfl, hg5⟩) rfl rfl rfl (.inl rfl) Fu22 rfl rfl ?_; clear hS; try clear tm
     intro tm hS
     refine o_len (k := 6) (r := (rI .i64)) hS (.inr ⟨_, _, _, _, rfl, rfl, rfl, hg5⟩) rfl rfl rfl (.inl rfl) Fu22 rfl ?_; clear hS; try clear tm
     intro tm hS
     refine o_pure hS (.inr ⟨_, _, _, _, rfl, rfl, rfl, hg5⟩) rfl rfl ?_; clear hS; try clear tm
     intro tm hS
     refine o_pickF hS (.inl rfl) rfl rfl hg5 rfl ?_; clear hS; try clear tm
     intro tm hS
     have hc5 : c5 = ((b1.Data.length : Int) != 1) := hc5.trans (by rw [hg5]; first | rfl | simp)
     subst hc5
     exact o_nil (hS.keep (ka_cons rfl (ka_cons rfl (ka_cons rfl (ka_cons rfl (ka_cons rfl (ka_cons rfl (ka_cons rfl (ka_cons rfl ka_nil)))))))) (fun hI => (hI.sub (sc (sd (sd (sd (sd (sd (sd (sc sn)))))))))))
   intro tm H hS
   subst hc5
   refine o_pure hS (.inl rfl) rfl rfl ?_; clear hS; try clear tm
   intro tm hS
   refine o_nil (hR _ _ ?_)
   clear hR R
   refine c_cond hS rfl (fun hc => ?_) (fun hc => ?_)
   ·replace h0 := iteT hc h0
    refine c_reg fun R hR => ?_
    refine o_build hS (.inl rfl) rfl Fb25 rfl .nil rfl ?_; clear hS; try clear tm
    intro tm hS
    refine o_pure hS (.inl rfl) rfl rfl ?_; clear hS; try clear tm
    intro tm hS
    refine o_st (k := 0) hS (.inl rfl) rfl rfl rfl Fs25 rfl rfl (all_cons rfl (all_cons rfl (all_cons rfl all_nil))) rfl ?_; clear hS; try clear H
    intro H hS
    refine o_pure hS (.inl rfl) rfl rfl ?_; clear hS; try clear tm
    intro tm hS
    refine o_pure hS (.inl rfl) rfl rfl ?_; clear hS; try clear tm
    intro tm hS
    refine o_nil (hR _ _ ?_)
    clear hR R
    refine wpC.ret ?_
    obtain rfl := Option.some.inj h0
    replace hS := hS.nilOwn (rI .i64)
    replace hS := hS.nilOwn (rI .i64)
    refine Exists.intro _ (And.intro (rs_cellA (k := 2) hS rfl rfl (.inl rfl) Fu25 rfl Fs25 rfl (rs_tmp hS rfl (rs_tmp hS rfl rs_nil))) ?_)
    have hI := hS.inv
    exact ⟨(.slice none 0 0), (.slice none 0 0), rfl, (((hI.pull 0 rfl).pull 1 rfl).take 2)⟩
   ·replace h0 := iteF hc h0
    refine c_reg fun R hR => ?_
    refine o_pure hS (.inl rfl) rfl rfl ?_; clear hS; try clear tm
    intro tm hS
    refine o_pure hS (.inl rfl) rfl rfl ?_; clear hS; try clear tm
    intro tm hS
    refine o_pure hS (.inl rfl) rfl rfl ?_; clear hS; try clear tm
    intro tm hS
    obtain ⟨c6, hc6⟩ : ∃ x : Bool, x = ((!r2) || (!r4)) := ⟨_, rfl⟩
    refine o_cutN 3 (J := fun tm H => S wm 143 tm H [(80, .bool c6), (2, v5), (3, .int .i64 at1), (8, .pointer (some ⟨b4, 0, none⟩)), (11, .int .i64 r1), (13, .int .i64 r3)] [.box b4 [.bool false, (.slice none 0 0), (.slice none 0 0)], .fz (rI .u64) v5 draws1] Fr) ?_ ?_
    ·rcases Bool.eq_false_or_eq_true (!r2) with hg6 | hg6
     ·refine o_skip hS rfl rfl rfl hg6 ?_; clear hS; try clear tm
      intro tm hS
      refine o_skip hS rfl rfl rfl hg6 ?_; clear hS; try clear tm
      intro tm hS
      refine o_pickT hS (.inl rfl) rfl rfl hg6 rfl ?_; clear hS; try clear tm
      intro tm hS
      have hc6 : c6 = true := hc6.trans (by rw [hg6]; first | rfl | simp)
      subst hc6
      exact o_nil (hS.keep (ka_cons rfl (ka_cons rfl (ka_cons rfl (ka_cons rfl (ka_cons rfl (ka_cons rfl ka_nil)))))) (fun hI => (hI.sub (sc (sc sn)))))
     ·refine o_pure hS (.inr ⟨_, _, _, _, rfl, rfl, rfl, hg6⟩) rfl rfl ?_; clear hS; try clear tm
      intro tm hS
      refine o_pure hS (.inr ⟨_, _, _, _, rfl, rfl, rfl, hg6⟩) rfl rfl ?_; clear hS; try clear tm
      intro tm hS
      refine o_pickF hS (.inl rfl) rfl rfl hg6 rfl ?_; clear hS; try clear tm
      intro tm hS
      have hc6 : c6 = (!r4) := hc6.trans (by rw [hg6]; first | rfl | simp)
      subst hc6
      exact o_nil (hS.keep (ka_cons rfl (ka_cons rfl (ka_cons rfl (ka_cons rfl (ka_cons rfl (ka_cons rfl ka_nil)))))) (fun hI => (hI.sub (sc (sc sn)))))
    intro tm H hS
    subst hc6
    refine o_pure hS (.inl rfl) rfl rfl ?_; clear hS; try clear tm
    intro tm hS
    obtain ⟨c7, hc7⟩ : ∃ x : Bool, x = (((!r2) || (!r4)) || (decide (r1 < 0))) := ⟨_, rfl⟩
    refine o_cutN 3 (J := fun tm H => S wm 143 tm H [(84, .bool c7), (2, v5), (3, .int .i64 at1), (8, .pointer (some ⟨b4, 0, none⟩)), (11, .int .i64 r1), (13, .int .i64 r3)] [.box b4 [.bool false, (.slice none 0 0), (.slice none 0 0)], .fz (rI .u64) v5 draws1] Fr) ?_ ?_
    ·rcases Bool.eq_false_or_eq_true ((!r2) || (!r4)) with hg7 | hg7
     ·refine o_skip hS rfl rfl rfl hg7 ?_; clear hS; try clear tm
      intro tm hS
      refine o_skip hS rfl rfl rfl hg7 ?_; clear hS; try clear tm
      intro tm hS
      refine o_pickT hS (.inl rfl) rfl rfl hg7 rfl ?_; clear hS; try clear tm
      intro tm hS
      have hc7 : c7 = true := hc7.trans (by rw [hg7]; first | rfl | simp)
      subst hc7
      exact o_nil (hS.keep (ka_cons rfl (ka_cons rfl (ka_cons rfl (ka_cons rfl (ka_cons rfl (ka_cons rfl ka_nil)))))) (fun hI => (hI.sub (sc (sc sn)))))
     ·refine o_pure hS (.inr ⟨_, _, _, _, rfl, rfl, rfl, hg7⟩) rfl rfl ?_; clear hS; try clear tm
      intro tm hS
      refine o_pure hS (.inr ⟨_, _, _, _, rfl, rfl, rfl, hg7⟩) rfl rfl ?_; clear hS; try clear tm
      intro tm hS
      refine o_pickF hS (.inl rfl) rfl rfl hg7 rfl ?_; clear hS; try clear tm
      intro tm hS
      have hc7 : c7 = (decide (r1 < 0)) := hc7.trans (by rw [hg7]; first | rfl | simp)
      subst hc7
      exact o_nil (hS.keep (ka_cons rfl (ka_cons rfl (ka_cons rfl (ka_cons rfl (ka_cons rfl (ka_cons rfl ka_nil)))))) (fun hI => (hI.sub (sc (sc sn)))))
    intro tm H hS
    subst hc7
    refine o_pure hS (.inl rfl) rfl rfl ?_; clear hS; try clear tm
    intro tm hS
    obtain ⟨c8, hc8⟩ : ∃ x : Bool, x = ((((!r2) || (!r4)) || (decide (r1 < 0))) || (decide (r3 < r1))) := ⟨_, rfl⟩
    refine o_cutN 4 (J := fun tm H => S wm 143 tm H [(89, .bool c8), (2, v5), (3, .int .i64 at1), (8, .pointer (some ⟨b4, 0, none⟩)), (11, .int .i64 r1), (13, .int .i64 r3)] [.box b4 [.bool false, (.slice none 0 0), (.slice none 0 0)], .fz (rI .u64) v5 draws1] Fr) ?_ ?_
    ·rcases Bool.eq_false_or_eq_true (((!r2) || (!r4)) || (decide (r1 < 0))) with hg8 | hg8
     ·refine o_skip hS rfl rfl rfl hg8 ?_; clear hS; try clear tm
      intro tm hS
      refine o_skip hS rfl rfl rfl hg8 ?_; clear hS; try clear tm
      intro tm hS
      refine o_skip hS rfl rfl rfl hg8 ?_; clear hS; try clear tm
      intro tm hS
      refine o_pickT hS (.inl rfl) rfl rfl hg8 rfl ?_; clear hS; try clear tm
      intro tm hS
      have hc8 : c8 = true := hc8.trans (by rw [hg8]; first | rfl | simp)
      subst hc8
      exact o_nil (hS.keep (ka_cons rfl (ka_cons rfl (ka_cons rfl (ka_cons rfl (ka_cons rfl (ka_cons rfl ka_nil)))))) (fun hI => (hI.sub (sc (sc sn)))))
     ·refine o_pure hS (.inr ⟨_, _, _, _, rfl, rfl, rfl, hg8⟩) rfl rfl ?_; clear hS; try clear tm
      intro tm hS
      refine o_pure hS (.inr ⟨_, _, _, _, rfl, rfl, rfl, hg8⟩) rfl rfl ?_; clear hS; try clear tm
      intro tm hS
      refine o_pure hS (.inr ⟨_, _, _, _, rfl, rfl, rfl, hg8⟩) rfl rfl ?_; clear hS; try clear tm
      intro tm hS
      refine o_pickF hS (.inl rfl) rfl rfl hg8 rfl ?_; clear hS; try clear tm
      intro tm hS
      have hc8 : c8 = (decide (r3 < r1)) := hc8.trans (by rw [hg8]; first | rfl | simp)
      subst hc8
      exact o_nil (hS.keep (ka_cons rfl (ka_cons rfl (ka_cons rfl (ka_cons rfl (ka_cons rfl (ka_cons rfl ka_nil)))))) (fun hI => (hI.sub (sc (sc sn)))))
    intro tm H hS
    subst hc8
    refine o_pure hS (.inl rfl) rfl rfl ?_; clear hS; try clear tm
    intro tm hS
    refine o_nil (hR _ _ ?_)
    clear hR R
    refine c_cond hS rfl (fun hc => ?_) (fun hc => ?_)
    ·replace h0 := iteT hc h0
     refine c_reg fun R hR => ?_
     refine o_build hS (.inl rfl) rfl Fb25 rfl .nil rfl ?_; clear hS; try clear tm
     intro tm hS
     refine o_pure hS (.inl rfl) rfl rfl ?_; clear hS; try clear tm
     intro tm hS
     refine o_st (k := 0) hS (.inl rfl) rfl rfl rfl Fs25 rfl rfl (all_cons rfl (all_cons rfl (all_cons rfl all_nil))) rfl ?_; clear hS; try clear H
     intro H hS
     refine o_pure hS (.inl rfl) rfl rfl ?_; clear hS; try clear tm
     intro tm hS
     refine o_pure hS (.inl rfl) rfl rfl ?_; clear hS; try clear tm
     intro tm hS
     refine o_nil (hR _ _ ?_)
     clear hR R
     refine wpC.ret ?_
     obtain rfl := Option.some.inj h0
     replace hS := hS.nilOwn (rI .i64)
     replace hS := hS.nilOwn (rI .i64)
     refine Exists.intro _ (And.intro (rs_cellA (k := 2) hS rfl rfl (.inl rfl) Fu25 rfl Fs25 rfl (rs_tmp hS rfl (rs_tmp hS rfl rs_nil))) ?_)
     have hI := hS.inv
     exact ⟨(.slice none 0 0), (.slice none 0 0), rfl, (((hI.pull 0 rfl).pull 1 rfl).take 2)⟩
    ·replace h0 := iteF hc h0
     refine c_reg fun R hR => ?_
     refine o_pure hS (.inl rfl) rfl rfl ?_; clear hS; try clear tm
     intro tm hS
     refine o_pure hS (.inl rfl) rfl rfl ?_; clear hS; try clear tm
     intro tm hS
     refine o_pure hS (.inl rfl) rfl rfl ?_; clear hS; try clear tm
     intro tm hS
     refine o_nil (hR _ _ ?_)
     clear hR R
     refine c_cond hS rfl (fun hc => ?_) (fun hc => ?_)
     ·replace h0 := iteT hc h0
      refine c_reg fun R hR => ?_
      refine o_build hS (.inl rfl) rfl Fb25 rfl .nil rfl ?_; clear hS; try clear tm
      intro tm hS
      refine o_pure hS (.inl rfl) rfl rfl ?_; clear hS; try clear tm
      intro tm hS
      refine o_st (k := 0) hS (.inl rfl) rfl rfl rfl Fs25 rfl rfl (all_cons rfl (all_cons rfl (all_cons rfl all_nil))) rfl ?_; clear hS; try clear H
      intro H hS
      refine o_pure hS (.inl rfl) rfl rfl ?_; clear hS; try clear tm
      intro tm hS
      refine o_pure hS (.inl rfl) rfl rfl ?_; clear hS; try clear tm
      intro tm hS
      refine o_nil (hR _ _ ?_)
      clear hR R
      refine wpC.ret ?_
      obtain rfl := Option.some.inj h0
      replace hS := hS.nilOwn (rI .i64)
      replace hS := hS.nilOwn (rI .i64)
      refine Exists.intro _ (And.intro (rs_cellA (k := 2) hS rfl rfl (.inl rfl) Fu25 rfl Fs25 rfl (rs_tmp hS rfl (rs_tmp hS rfl rs_nil))) ?_)
      have hI := hS.inv
      exact ⟨(.slice none 0 0), (.slice none 0 0), rfl, (((hI.pull 0 rfl).pull 1 rfl).take 2)⟩
     ·replace h0 := iteF hc h0
      refine wpC.skip ?_
      refine c_reg fun R hR => ?_
      refine o_pure hS (.inl rfl) rfl rfl ?_; clear hS; try clear tm
      intro tm hS
      refine o_nil (hR _ _ ?_)
      clear hR R
      refine c_seqS ?_
      refine c_reg fun R hR => ?_
      refine o_pure hS (.inl rfl) rfl rfl ?_; clear hS; try clear tm
      intro tm hS
      refine o_pure hS (.inl rfl) rfl rfl ?_; clear hS; try clear tm
      intro tm hS
      refine o_nil (hR _ _ ?_)
      clear hR R
      obtain ⟨k1, hw1, h0⟩ := bindS h0
      refine wpC.block ?_
      replace hS := hS.nilOwn (rI .i64)
      refine c_loop (I := fun (s : (List Int) × Int) tm H => match (generalizing := false) s with | (l1, t1) => ∃ v6, S wm 143 tm H [(2, v5), (3, .int .i64 at1), (8, .pointer (some ⟨b4, 0, none⟩)), (11, .int .i64 r1), (13, .int .i64 r3), (15, v6), (97, .int .i64 r3), (98, .int .i64 t1)] [.box b4 [.bool false, (.slice none 0 0), (.slice none 0 0)], .own (rI .i64) v6 l1, .fz (rI .u64) v5 draws1] Fr) hw1 (by refine Exists.intro (.slice none 0 0) ?_; change S wm 143 _ _ _ _ Fr; exact hS.keep (ka_cons rfl (ka_cons rfl (ka_cons rfl (ka_cons rfl (ka_cons rfl (ka_cons rfl (ka_cons rfl (ka_cons rfl ka_nil)))))))) (fun hI => ((((hI.pull 2 rfl).pull 1 rfl).pull 2 rfl).take 3))) ?_
      clear hS
      intro s1 tm H c9 hS h1 hq1
      obtain ⟨l1, t1⟩ := s1
      obtain ⟨v6, hS⟩ := hS
      change S wm 143 tm H [(2, v5), (3, .int .i64 at1), (8, .pointer (some ⟨b4, 0, none⟩)), (11, .int .i64 r1), (13, .int .i64 r3), (15, v6), (97, .int .i64 r3), (98, .int .i64 t1)] [.box b4 [.bool false, (.slice none 0 0), (.slice none 0 0)], .own (rI .i64) v6 l1, .fz (rI .u64) v5 draws1] Fr at hS
      refine c_reg fun R hR => ?_
      refine o_pure hS (.inl rfl) rfl rfl ?_; clear hS; try clear tm
      intro tm hS
      refine o_nil (hR _ _ ?_)
      clear hR R
      refine c_seqS ?_
      refine c_cond hS rfl (fun hc => ?_) (fun hc => ?_)
      ·replace h1 := iteT hc h1
       refine wpC.skip ?_
       refine c_seqS ?_
       refine wpC.block ?_
       refine c_reg fun R hR => ?_
       refine o_pure hS (.inl rfl) rfl rfl ?_; clear hS; try clear tm
       intro tm hS
       refine o_pure hS (.inl rfl) rfl rfl ?_; clear hS; try clear tm
       intro tm hS
       refine o_nil (hR _ _ ?_)
       clear hR R
       refine c_reg1 fun R hR => ?_
       refine o_pure hS (.inl rfl) rfl rfl ?_; clear hS; try clear tm
       intro tm hS
       refine o_pure hS (.inl rfl) rfl rfl ?_; clear hS; try clear tm
       intro tm hS
       refine o_pure hS (.inl rfl) rfl rfl ?_; clear hS; try clear tm
       intro tm hS
       refine o_lit (r := (rI .i64)) (l := [(IntKind.i64.wrap (t1 + 1))]) hS (.inl rfl) rfl Fl22 rfl rfl rfl (.cons rfl .nil) rfl rfl (ri_1 (rd_flat fun _ => rfl) ri_nil) rfl ?_; clear hS; try clear tm H
       intro v7 tm H hS
       obtain ⟨l2, hx5, h1⟩ := bindS h1
       refine o_app (k1 := 2) (k2 := 0) (r := (rI .i64)) hS (.inl rfl) rfl rfl rfl rfl rfl (.inr (.inr rfl)) rfl Fe22_22 rfl hx5 ?_; clear hS; try clear tm H
       intro v8 tm H hS
       refine o_pure hS (.inl rfl) rfl rfl ?_; clear hS; try clear tm
       intro tm hS
       refine o_nil (hR _ _ ?_)
       clear hR R
       refine c_reg1 fun R hR => ?_
       refine o_pure hS (.inl rfl) rfl rfl ?_; clear hS; try clear tm
       intro tm hS
       refine o_pure hS (.inl rfl) rfl rfl ?_; clear hS; try clear tm
       intro tm hS
       refine o_nil (hR _ _ ?_)
       clear hR R
       obtain rfl := Option.some.inj h1
       refine ⟨_, rfl, ?_⟩
       refine Exists.intro v8 ?_; change S wm 143 _ _ _ _ Fr; exact hS.keep (ka_cons rfl (ka_cons rfl (ka_cons rfl (ka_cons rfl (ka_cons rfl (ka_cons rfl (ka_cons rfl (ka_cons rfl ka_nil)))))))) (fun hI => (hI.sub (sd (sc (sc (sc sn))))))
      ·replace h1 := iteF hc h1
       refine wpC.exit ?_
       refine seqX ?_
       obtain rfl := Option.some.inj h1
       obtain rfl := hq1 _ rfl
       refine And.intro rfl (blk_eq ?_)
       replace h0 := joinN h0
       refine c_seqS ?_
       refine c_reg fun R hR => ?_
       refine o_pure hS (.inl rfl) rfl rfl ?_; clear hS; try clear tm
       intro tm hS
       refine o_pure hS (.inl rfl) rfl rfl ?_; clear hS; try clear tm
       intro tm hS
       refine o_nil (hR _ _ ?_)
       clear hR R
       obtain ⟨k2, hw2, h0⟩ := bindS h0
       refine wpC.block ?_
       refine c_loop (I := fun (s : Int × (List Int)) tm H => match (generalizing := false) s with | (t2, l3) => S wm 143 tm H [(2, v5), (3, .int .i64 at1), (8, .pointer (some ⟨b4, 0, none⟩)), (11, .int .i64 r1), (13, .int .i64 r3), (15, v6), (107, .int .i64 r1), (108, .int .i64 t2)] [.box b4 [.bool false, (.slice none 0 0), (.slice none 0 0)], .fz (rI .u64) v5 draws1, .own (rI .i64) v6 l3] Fr) hw2 (by change S wm 143 _ _ _ _ Fr; exact hS.keep (ka_cons rfl (ka_cons rfl (ka_cons rfl (ka_cons rfl (ka_cons rfl (ka_cons rfl (ka_cons rfl (ka_cons rfl ka_nil)))))))) (fun hI => ((((hI.pull 1 rfl).pull 2 rfl).pull 2 rfl).take 3))) ?_
       clear hS
       intro s2 tm H c10 hS h3 hq3
       obtain ⟨t2, l3⟩ := s2
       change S wm 143 tm H [(2, v5), (3, .int .i64 at1), (8, .pointer (some ⟨b4, 0, none⟩)), (11, .int .i64 r1), (13, .int .i64 r3), (15, v6), (107, .int .i64 r1), (108, .int .i64 t2)] [.box b4 [.bool false, (.slice none 0 0), (.slice none 0 0)], .fz (rI .u64) v5 draws1, .own (rI .i64) v6 l3] Fr at hS
       refine c_reg fun R hR => ?_
       refine o_pure hS (.inl rfl) rfl rfl ?_; clear hS; try clear tm
       intro tm hS
       refine o_nil (hR _ _ ?_)
       clear hR R
       refine c_seqS ?_
       refine c_cond hS rfl (fun hc => ?_) (fun hc => ?_)
       ·replace h3 := iteT hc h3
        refine wpC.skip ?_
        refine c_seqS ?_
        refine wpC.block ?_
        refine c_reg fun R hR => ?_
        refine o_pure hS (.inl rfl) rfl rfl ?_; clear hS; try clear tm
        intro tm hS
        refine o_pure hS (.inl rfl) rfl rfl ?_; clear hS; try clear tm
        intro tm hS
        refine o_nil (hR _ _ ?_)
        clear hR R
        refine c_reg fun R hR => ?_
        refine o_pure hS (.inl rfl) rfl rfl ?_; clear hS; try clear tm
        intro tm hS
        refine o_pure hS (.inl rfl) rfl rfl ?_; clear hS; try clear tm
        intro tm hS
        refine o_pure hS (.inl rfl) rfl rfl ?_; clear hS; try clear tm
        intro tm hS
        refine o_pure hS (.inl rfl) rfl rfl ?_; clear hS; try clear tm
        intro tm hS
        refine o_pure hS (.inl rfl) rfl rfl ?_; clear hS; try clear tm
        intro tm hS
        refine o_pure hS (.inl rfl) rfl rfl ?_; clear hS; try clear tm
        intro tm hS
        refine o_pure hS (.inl rfl) rfl rfl ?_; clear hS; try clear tm
        intro tm hS
        refine o_pure hS (.inl rfl) rfl rfl ?_; clear hS; try clear tm
        intro tm hS
        obtain ⟨r7, hx6, h3⟩ := bindS h3
        refine o_call hS (.inl rfl) rfl (fun wm' hw1 hw2 => wk41  draws1 (IntKind.i64.wrap (at1 + t2)) (IntKind.i64.wrap (r3 - t2))  v5 ((hS.sel hw2).ad 1 rfl) hx6) (fun wm' res H hw' hp => ?_)
        obtain ⟨hres, hI⟩ := hp
        replace hres := hres.symm; subst hres
        replace hS : S wm 143 _ H ((119, .int .i64 r7) :: _) ([] ++ _) Fr := hS.after rfl hw' hI
        clear hI hw'
        refine o_pure hS (.inl rfl) rfl rfl ?_; clear hS; try clear tm
        intro tm hS
        refine o_pure hS (.inl rfl) rfl rfl ?_; clear hS; try clear tm
        intro tm hS
        refine o_nil (hR _ _ ?_)
        clear hR R
        refine c_reg1 fun R hR => ?_
        refine o_pure hS (.inl rfl) rfl rfl ?_; clear hS; try clear tm
        intro tm hS
        refine o_pure hS (.inl rfl) rfl rfl ?_; clear hS; try clear tm
        intro tm hS
        refine o_pure hS (.inl rfl) rfl rfl ?_; clear hS; try clear tm
        intro tm hS
        refine o_pure hS (.inl rfl) rfl rfl ?_; clear hS; try clear tm
        intro tm hS
        refine o_pure hS (.inl rfl) rfl rfl ?_; clear hS; try clear tm
        intro tm hS
        refine o_pure hS (.inl rfl) rfl rfl ?_; clear hS; try clear tm
        intro tm hS
        obtain ⟨y1, hx7, h3⟩ := bindS h3
        refine o_ixA (k := 2) (r := (rI .i64)) hS (.inl rfl) rfl rfl rfl rfl (.inr (.inl rfl)) Fu22 Fs2 hx7 ?_; clear hS; try clear tm
        intro tm hS
        refine o_ldF (r := (rI .i64)) (k := 2) hS (.inl rfl) rfl rfl rfl (.inr (.inl rfl)) hx7 Fu2 rfl (flat_I _) rfl ?_; clear hS; try clear tm
        intro tm hS
        refine o_pure hS (.inl rfl) rfl rfl ?_; clear hS; try clear tm
        intro tm hS
        refine o_pure hS (.inl rfl) rfl rfl ?_; clear hS; try clear tm
        intro tm hS
        obtain ⟨y2, hx8, h3⟩ := bindS h3
        refine o_ixA (k := 2) (r := (rI .i64)) hS (.inl rfl) rfl rfl rfl rfl (.inr (.inl rfl)) Fu22 Fs2 hx8 ?_; clear hS; try clear tm
        intro tm hS
        refine o_ldF (r := (rI .i64)) (k := 2) hS (.inl rfl) rfl rfl rfl (.inr (.inl rfl)) hx8 Fu2 rfl (flat_I _) rfl ?_; clear hS; try clear tm
        intro tm hS
        obtain ⟨y3, hx9, h3⟩ := bindS h3
        refine o_ixA (k := 2) (r := (rI .i64)) hS (.inl rfl) rfl rfl rfl rfl (.inr (.inl rfl)) Fu22 Fs2 hx9 ?_; clear hS; try clear tm
        intro tm hS
        obtain ⟨l4, hx10, h3⟩ := bindS h3
        refine o_stE (k := 2) (r := (rI .i64)) hS (.inl rfl) rfl rfl rfl Fs2 rfl rfl (rd_flat fun _ => rfl) hx10 ?_; clear hS; try clear H
        intro H hS
        obtain ⟨y4, hx11, h3⟩ := bindS h3
        refine o_ixA (k := 2) (r := (rI .i64)) hS (.inl rfl) rfl rfl rfl rfl (.inr (.inl rfl)) Fu22 Fs2 hx11 ?_; clear hS; try clear tm
        intro tm hS
        obtain ⟨l5, hx12, h3⟩ := bindS h3
        refine o_stE (k := 2) (r := (rI .i64)) hS (.inl rfl) rfl rfl rfl Fs2 rfl rfl (rd_flat fun _ => rfl) hx12 ?_; clear hS; try clear H
        intro H hS
        refine o_nil (hR _ _ ?_)
        clear hR R
        refine c_reg1 fun R hR => ?_
        refine o_pure hS (.inl rfl) rfl rfl ?_; clear hS; try clear tm
        intro tm hS
        refine o_pure hS (.inl rfl) rfl rfl ?_; clear hS; try clear tm
        intro tm hS
        refine o_nil (hR _ _ ?_)
        clear hR R
        obtain rfl := Option.some.inj h3
        refine ⟨_, rfl, ?_⟩
        change S wm 143 _ _ _ _ Fr; exact hS.keep (ka_cons rfl (ka_cons rfl (ka_cons rfl (ka_cons rfl (ka_cons rfl (ka_cons rfl (ka_cons rfl (ka_cons rfl ka_nil)))))))) (fun hI => (hI.sub (sc (sc (sc sn)))))
       ·replace h3 := iteF hc h3
        refine wpC.exit ?_
        refine seqX ?_
        obtain rfl := Option.some.inj h3
        obtain rfl := hq3 _ rfl
        refine And.intro rfl (blk_eq ?_)
        replace h0 := joinN h0
        refine c_reg fun R hR => ?_
        refine o_pure hS (.inl rfl) rfl rfl ?_; clear hS; try clear tm
        intro tm hS
        refine o_pure hS (.inl rfl) rfl rfl ?_; clear hS; try clear tm
        intro tm hS
        obtain ⟨l6, hx13, h0⟩ := bindS h0
        refine o_slO (k := 2) (r := (rI .i64)) hS (.inl rfl) rfl rfl rfl Fu22 Fs2 rfl rfl hx13 ?_; clear hS; try clear tm
        intro v9 tm hS
        obtain ⟨r8, hx14, h0⟩ := bindS h0
        refine o_call (Pc := fun _ res H => ∃ v10 v11, res = .agg #[.bool r8.Char, v10, v11] ∧ Kn wm H ([.own (rI .i64) v10 r8.Shape, .own (rI .i64) v11 r8.Data] ++ [.box b4 [.bool false, (.slice none 0 0), (.slice none 0 0)], .fz (rI .u64) v5 draws1, .own (rI .i64) v9 l6]) Fr) hS (.inl rfl) rfl (fun wm' hw1 hw2 => by
         obtain ⟨F2, k1, k2⟩ := hS.inv.lendR (La := [.fz (rI .i64) v9 l6]) (List.forall_mem_cons.mpr ⟨(.inr ⟨_, _, _, _, rfl, .inl (List.mem_of_getElem? (i := 2) rfl)⟩), (fun _ h => by cases h)⟩) hw1 hw2
         exact (wk36  l6  v9 k1 hx14).mono fun res H2 ⟨v10, v11, q1, q2⟩ => ⟨v10, v11, q1, k2 _ _ (List.forall_mem_cons.mpr ⟨⟨_, _, _, _, rfl, fun _ _ _ _ h => h⟩, (List.forall_mem_cons.mpr ⟨⟨_, _, _, _, rfl, fun _ _ _ _ h => h⟩, (fun _ h => by cases h)⟩)⟩) q2⟩) (fun wm' res H hw' hp => ?_)
        obtain ⟨v10, v11, hres, hI⟩ := hp
        replace hres := hres.symm; subst hres
        replace hS : S wm 143 _ H ((139, .agg #[.bool r8.Char, v10, v11]) :: _) ([.own (rI .i64) v10 r8.Shape, .own (rI .i64) v11 r8.Data] ++ [.box b4 [.bool false, (.slice none 0 0), (.slice none 0 0)], .fz (rI .u64) v5 draws1, .own (rI .i64) v9 l6]) Fr := (hS.put rfl _).withK hI
        clear hI hw'
        refine o_pure hS (.inl rfl) rfl rfl ?_; clear hS; try clear tm
        intro tm hS
        refine o_pure hS (.inl rfl) rfl rfl ?_; clear hS; try clear tm
        intro tm hS
        refine o_pure hS (.inl rfl) rfl rfl ?_; clear hS; try clear tm
        intro tm hS
        refine o_st (k := 2) hS (.inl rfl) rfl rfl rfl Fs25 rfl rfl (all_cons rfl (all_cons (hS.one (k := 0) rfl (.inr (.inl rfl))) (all_cons (hS.one (k := 1) rfl (.inr (.inl rfl))) all_nil))) rfl ?_; clear hS; try clear H
        intro H hS
        refine o_pure hS (.inl rfl) rfl rfl ?_; clear hS; try clear tm
        intro tm hS
        refine o_pure hS (.inl rfl) rfl rfl ?_; clear hS; try clear tm
        intro tm hS
        refine o_nil (hR _ _ ?_)
        clear hR R
        refine wpC.ret ?_
        obtain rfl := Option.some.inj h0
        refine Exists.intro _ (And.intro (rs_cellA (k := 2) hS rfl rfl (.inl rfl) Fu25 rfl Fs25 rfl (rs_tmp hS rfl (rs_tmp hS rfl rs_nil))) ?_)
        have hI := hS.inv
        exact ⟨v10, v11, rfl, (hI.sub (sc (sc sn)))⟩
theorem wk24 {wm : Nat} {H : AHeap} {Fr : List Ent}  (a1 : Val) (b1 : Val)  (v1 : Value) (v2 : Value) (v3 : Value) (v4 : Value) (hI : Kn wm H [.fz (rI .i64) v1 a1.Shape, .fz (rI .i64) v2 a1.Data, .fz (rI .i64) v3 b1.Shape, .fz (rI .i64) v4 b1.Data] Fr) {r : Bool} (h0 : M.anamnesisref06_Same a1 b1 = some r) :
  wpF Try.prog ora wm 24 [.agg #[.bool a1.Char, v1, v2], .agg #[.bool b1.Char, v3, v4]] H (fun res H => res = .bool r ∧ Kn wm H [] Fr) := by
 unfold M.anamnesisref06_Same at h0
 refine f_enter (n := 66) Try.func24 rfl (by simp) hI rfl rfl rfl fun tm hS => ?_
 clear hI
 refine c_reg fun R hR => ?_
 refine o_box hS (.inl rfl) rfl rfl rfl (all_cons rfl (all_cons (hS.one (k := 0) rfl (.inl rfl)) (all_cons (hS.one (k := 1) rfl (.inl rfl)) all_nil))) ?_; clear hS; try clear tm H
 intro b2 tm H hS
 refine o_box hS (.inl rfl) rfl rfl rfl (all_cons rfl (all_cons (hS.one (k := 3) rfl (.inl rfl)) (all_cons (hS.one (k := 4) rfl (.inl rfl)) all_nil))) ?_; clear hS; try clear tm H
 intro b3 tm H hS
 refine o_pure hS (.inl rfl) rfl rfl ?_; clear hS; try clear tm
 intro tm hS
 refine o_nil (hR _ _ ?_)
 clear hR R
 refine c_seqS ?_
 refine c_reg fun R hR => ?_
 refine o_pure hS (.inl rfl) rfl rfl ?_; clear hS; try clear tm
 intro tm hS
 refine o_ld1 (k := 1) hS (.inl rfl) rfl rfl rfl (.inl rfl) Fu4 rfl rfl ?_; clear hS; try clear tm
 intro tm hS
 refine o_pure hS (.inl rfl) rfl rfl ?_; clear hS; try clear tm
 intro tm hS
 refine o_ld1 (k := 0) hS (.inl rfl) rfl rfl rfl (.inl rfl) Fu4 rfl rfl ?_; clear hS; try clear tm
 intro tm hS
 refine o_pure hS (.inl rfl) rfl rfl ?_; clear hS; try clear tm
 intro tm hS
 refine o_pure hS (.inl rfl) rfl rfl ?_; clear hS; try clear tm
 intro tm hS
 obtain ⟨c1, hc1⟩ : ∃ x : Bool, x = ((!(a1.Char == b1.Char)) || ((a1.Shape.length : Int) != (b1.Shape.length : Int))) := ⟨_, rfl⟩
 refine o_cutN 8 (J := fun tm H => S wm 66 tm H [(20, .bool c1), (2, .pointer (some ⟨b2, 0, none⟩)), (3, .pointer (some ⟨b3, 0, none⟩))] [.box b3 [.bool b1.Char, v3, v4], .box b2 [.bool a1.Char, v1, v2], .fz (rI .i64) v1 a1.Shape, .fz (rI .i64) v2 a1.Data, .fz (rI .i64) v3 b1.Shape, .fz (rI .i64) v4 b1.Data] Fr) ?_ ?_
 ·rcases Bool.eq_false_or_eq_true (!(a1.Char == b1.Char)) with hg1 | hg1
  ·refine o_skip hS rfl rfl rfl hg1 ?_; clear hS; try clear tm
   intro tm hS
   refine o_skip hS rfl rfl rfl hg1 ?_; clear hS; try clear tm
   intro tm hS
   refine o_skip hS rfl rfl rfl hg1 ?_; clear hS; try clear tm
   intro tm hS
   refine o_skip hS rfl rfl rfl hg1 ?_; clear hS; try clear tm
   intro tm hS
   refine o_skip hS rfl rfl rfl hg1 ?_; clear hS; try clear tm
   intro tm hS
   refine o_skip hS rfl rfl rfl hg1 ?_; clear hS; try clear tm
   intro tm hS
   refine o_skip hS rfl rfl rfl hg1 ?_; clear hS; try clear tm
   intro tm hS
   refine o_pickT hS (.inl rfl) rfl rfl hg1 rfl ?_; clear hS; try clear tm
   intro tm hS
   have hc1 : c1 = true := hc1.trans (by rw [hg1]; first | rfl | simp)
   subst hc1
   exact o_nil (hS.keep (ka_cons rfl (ka_cons rfl (ka_cons rfl ka_nil))) (fun hI => (hI.sub (sc (sc (sc (sc (sc (sc sn)))))))))
  ·refine o_pure hS (.inr ⟨_, _, _, _, rfl, rfl, rfl, hg1⟩) rfl rfl ?_; clear hS; try clear tm
   intro tm hS
   refine o_ld1 (k := 1) hS (.inr ⟨_, _, _, _, rfl, rfl, rfl, hg1⟩) rfl rfl rfl (.inl rfl) Fu23 rfl rfl ?_; clear hS; try clear tm
   intro tm hS
   refine o_len (k := 2) (r := (rI .i64)) hS (.inr ⟨_, _, _, _, rfl, rfl, rfl, hg1⟩) rfl rfl rfl (.inl rfl) Fu23 rfl ?_; clear hS; try clear tm
   intro tm hS
   refine o_pure hS (.inr ⟨_, _, _, _, rfl, rfl, rfl, hg1⟩) rfl rfl ?_; clear hS; try clear tm
   intro tm hS
   refine o_ld1 (k := 0) hS (.inr ⟨_, _, _, _, rfl, rfl, rfl, hg1⟩) rfl rfl rfl (.inl rfl) Fu23 rfl rfl ?_; clear hS; try clear tm
   intro tm hS
   refine o_len (k := 4) (r := (rI .i64)) hS (.inr ⟨_, _, _, _, rfl, rfl, rfl, hg1⟩) rfl rfl rfl (.inl rfl) Fu23 rfl ?_; clear hS; try clear tm
   intro tm hS
   refine o_pure hS (.inr ⟨_, _, _, _, rfl, rfl, rfl, hg1⟩) rfl rfl ?_; clear hS; try clear tm
   intro tm hS
   refine o_pickF hS (.inl rfl) rfl rfl hg1 rfl ?_; clear hS; try clear tm
   intro tm hS
   have hc1 : c1 = ((a1.Shape.length : Int) != (b1.Shape.length : Int)) := hc1.trans (by rw [hg1]; first | rfl | simp)
   subst hc1
   exact o_nil (hS.keep (ka_cons rfl (ka_cons rfl (ka_cons rfl ka_nil))) (fun hI => (hI.sub (sc (sc (sc (sc (sc (sc sn)))))))))
 intro tm H hS
 subst hc1
 refine o_pure hS (.inl rfl) rfl rfl ?_; clear hS; try clear tm
 intro tm hS
 obtain ⟨c2, hc2⟩ : ∃ x : Bool, x = (((!(a1.Char == b1.Char)) || ((a1.Shape.length : Int) != (b1.Shape.length : Int))) || ((a1.Data.length : Int) != (b1.Data.length : Int))) := ⟨_, rfl⟩
 refine o_cutN 8 (J := fun tm H => S wm 66 tm H [(29, .bool c2), (2, .pointer (some ⟨b2, 0, none⟩)), (3, .pointer (some ⟨b3, 0, none⟩))] [.box b3 [.bool b1.Char, v3, v4], .box b2 [.bool a1.Char, v1, v2], .fz (rI .i64) v1 a1.Shape, .fz (rI .i64) v2 a1.Data, .fz (rI .i64) v3 b1.Shape, .fz (rI .i64) v4 b1.Data] Fr) ?_ ?_
 ·rcases Bool.eq_false_or_eq_true ((!(a1.Char == b1.Char)) || ((a1.Shape.length : Int) != (b1.Shape.length : Int))) with hg2 | hg2
  ·refine o_skip hS rfl rfl rfl hg2 ?_; clear hS; try clear tm
   intro tm hS
   refine o_skip hS rfl rfl rfl hg2 ?_; clear hS; try clear tm
   intro tm hS
   refine o_skip hS rfl rfl rfl hg2 ?_; clear hS; try clear tm
   intro tm hS
   refine o_skip hS rfl rfl rfl hg2 ?_; clear hS; try clear tm
   intro tm hS
   refine o_skip hS rfl rfl rfl hg2 ?_; clear hS; try clear tm
   intro tm hS
   refine o_skip hS rfl rfl rfl hg2 ?_; clear hS; try clear tm
   intro tm hS
   refine o_skip hS rfl rfl rfl hg2 ?_; clear hS; try clear tm
   intro tm hS
   refine o_pickT hS (.inl rfl) rfl rfl hg2 rfl ?_; clear hS; try clear tm
   intro tm hS
   have hc2 : c2 = true := hc2.trans (by rw [hg2]; first | rfl | simp)
   subst hc2
   exact o_nil (hS.keep (ka_cons rfl (ka_cons rfl (ka_cons rfl ka_nil))) (fun hI => (hI.sub (sc (sc (sc (sc (sc (sc sn)))))))))
  ·refine o_pure hS (.inr ⟨_, _, _, _, rfl, rfl, rfl, hg2⟩) rfl rfl ?_; clear hS; try clear tm
   intro tm hS
   refine o_ld1 (k := 1) hS (.inr ⟨_, _, _, _, rfl, rfl, rfl, hg2⟩) rfl rfl rfl (.inl rfl) Fu22 rfl rfl ?_; clear hS; try clear tm
   intro tm hS
   refine o_len (k := 3) (r := (rI .i64)) hS (.inr ⟨_, _, _, _, rfl, rfl, rfl, hg2⟩) rfl rfl rfl (.inl rfl) Fu22 rfl ?_; clear hS; try clear tm
   intro tm hS
   refine o_pure hS (.inr ⟨_, _, _, _, rfl, rfl, rfl, hg2⟩) rfl rfl ?_; clear hS; try clear tm
   intro tm hS
   refine o_ld1 (k := 0) hS (.inr ⟨_, _, _, _, rfl, rfl, rfl, hg2⟩) rfl rfl rfl (.inl rfl) Fu22 rfl rfl ?_; clear hS; try clear tm
   intro tm hS
   refine o_len (k := 5) (r := (rI .i64)) hS (.inr ⟨_, _, _, _, rfl, rfl, rfl, hg2⟩) rfl rfl rfl (.inl rfl) Fu22 rfl ?_; clear hS; try clear tm
   intro tm hS
   refine o_pure hS (.inr ⟨_, _, _, _, rfl, rfl, rfl, hg2⟩) rfl rfl ?_; clear hS; try clear tm
   intro tm hS
   refine o_pickF hS (.inl rfl) rfl rfl hg2 rfl ?_; clear hS; try clear tm
   intro tm hS
   have hc2 : c2 = ((a1.Data.length : Int) != (b1.Data.length : Int)) := hc2.trans (by rw [hg2]; first | rfl | simp)
   subst hc2
   exact o_nil (hS.keep (ka_cons rfl (ka_cons rfl (ka_cons rfl ka_nil))) (fun hI => (hI.sub (sc (sc (sc (sc (sc (sc sn)))))))))
 intro tm H hS
 subst hc2
 refine o_nil (hR _ _ ?_)
 clear hR R
 refine c_cond hS rfl (fun hc => ?_) (fun hc => ?_)
 ·replace h0 := iteT hc h0
  refine c_reg fun R hR => ?_
  refine o_pure hS (.inl rfl) rfl rfl ?_; clear hS; try clear tm
  intro tm hS
  refine o_nil (hR _ _ ?_)
  clear hR R
  refine wpC.ret ?_
  obtain rfl := Option.some.inj h0
  refine Exists.intro _ (And.intro (rs_tmp hS rfl rs_nil) ?_)
  have hI := hS.inv
  exact ⟨rfl, (hI.sub sn)⟩
 ·replace h0 := iteF hc h0
  refine wpC.skip ?_
  refine c_seqS ?_
  refine c_reg fun R hR => ?_
  refine o_pure hS (.inl rfl) rfl rfl ?_; clear hS; try clear tm
  intro tm hS
  refine o_nil (hR _ _ ?_)
  clear hR R
  obtain ⟨k1, hw1, h0⟩ := bindS h0
  refine wpC.block ?_
  refine c_loop (I := fun (s : Int) tm H => match (generalizing := false) s with | i1 => S wm 66 tm H [(2, .pointer (some ⟨b2, 0, none⟩)), (3, .pointer (some ⟨b3, 0, none⟩)), (5, .int .i64 i1)] [.box b2 [.bool a1.Char, v1, v2], .box b3 [.bool b1.Char, v3, v4], .fz (rI .i64) v1 a1.Shape, .fz (rI .i64) v2 a1.Data, .fz (rI .i64) v3 b1.Shape, .fz (rI .i64) v4 b1.Data] Fr) hw1 (by change S wm 66 _ _ _ _ Fr; exact hS.keep (ka_cons rfl (ka_cons rfl (ka_cons rfl ka_nil))) (fun hI => (((((((hI.pull 5 rfl).pull 5 rfl).pull 5 rfl).pull 5 rfl).pull 4 rfl).pull 5 rfl).take 6))) ?_
  clear hS
  intro i1 tm H c3 hS h1 hq1
  change S wm 66 tm H [(2, .pointer (some ⟨b2, 0, none⟩)), (3, .pointer (some ⟨b3, 0, none⟩)), (5, .int .i64 i1)] [.box b2 [.bool a1.Char, v1, v2], .box b3 [.bool b1.Char, v3, v4], .fz (rI .i64) v1 a1.Shape, .fz (rI .i64) v2 a1.Data, .fz (rI .i64) v3 b1.Shape, .fz (rI .i64) v4 b1.Data] Fr at hS
  refine c_seqS ?_
  refine c_reg fun R hR => ?_
  refine o_pure hS (.inl rfl) rfl rfl ?_; clear hS; try clear tm
  intro tm hS
  refine o_pure hS (.inl rfl) rfl rfl ?_; clear hS; try clear tm
  intro tm hS
  refine o_ld1 (k := 0) hS (.inl rfl) rfl rfl rfl (.inl rfl) Fu23 rfl rfl ?_; clear hS; try clear tm
  intro tm hS
  refine o_len (k := 2) (r := (rI .i64)) hS (.inl rfl) rfl rfl rfl (.inl rfl) Fu23 rfl ?_; clear hS; try clear tm
  intro tm hS
  refine o_pure hS (.inl rfl) rfl rfl ?_; clear hS; try clear tm
  intro tm hS
  refine o_nil (hR _ _ ?_)
  clear hR R
  refine c_cond hS rfl (fun hc => ?_) (fun hc => ?_)
  ·replace h1 := iteT hc h1
   refine wpC.skip ?_
   refine c_seqS ?_
   refine wpC.block ?_
   refine c_reg fun R hR => ?_
   refine o_pure hS (.inl rfl) rfl rfl ?_; clear hS; try clear tm
   intro tm hS
   refine o_ld1 (k := 0) hS (.inl rfl) rfl rfl rfl (.inl rfl) Fu23 rfl rfl ?_; clear hS; try clear tm
   intro tm hS
   refine o_pure hS (.inl rfl) rfl rfl ?_; clear hS; try clear tm
   intro tm hS
   obtain ⟨y1, hx1, h1⟩ := bindS h1
   refine o_ixA (k := 2) (r := (rI .i64)) hS (.inl rfl) rfl rfl rfl rfl (.inl rfl) Fu23 Fs3 hx1 ?_; clear hS; try clear tm
   intro tm hS
   refine o_ldF (r := (rI .i64)) (k := 2) hS (.inl rfl) rfl rfl rfl (.inl rfl) hx1 Fu3 rfl (flat_I _) rfl ?_; clear hS; try clear tm
   intro tm hS
   refine o_pure hS (.inl rfl) rfl rfl ?_; clear hS; try clear tm
   intro tm hS
   refine o_ld1 (k := 1) hS (.inl rfl) rfl rfl rfl (.inl rfl) Fu23 rfl rfl ?_; clear hS; try clear tm
   intro tm hS
   refine o_pure hS (.inl rfl) rfl rfl ?_; clear hS; try clear tm
   intro tm hS
   obtain ⟨y2, hx2, h1⟩ := bindS h1
   refine o_ixA (k := 4) (r := (rI .i64)) hS (.inl rfl) rfl rfl rfl rfl (.inl rfl) Fu23 Fs3 hx2 ?_; clear hS; try clear tm
   intro tm hS
   refine o_ldF (r := (rI .i64)) (k := 4) hS (.inl rfl) rfl rfl rfl (.inl rfl) hx2 Fu3 rfl (flat_I _) rfl ?_; clear hS; try clear tm
   intro tm hS
   refine o_pure hS (.inl rfl) rfl rfl ?_; clear hS; try clear tm
   intro tm hS
   refine o_nil (hR _ _ ?_)
   clear hR R
   refine c_cond hS rfl (fun hc => ?_) (fun hc => ?_)
   ·replace h1 := iteT hc h1
    refine c_reg fun R hR => ?_
    refine o_pure hS (.inl rfl) rfl rfl ?_; clear hS; try clear tm
    intro tm hS
    refine o_nil (hR _ _ ?_)
    clear hR R
    refine wpC.ret ?_
    obtain rfl := Option.some.inj h1
    obtain rfl := hq1 _ rfl
    refine And.intro rfl ?_
    obtain rfl := leave h0
    refine Exists.intro _ (And.intro (rs_tmp hS rfl rs_nil) ?_)
    have hI := hS.inv
    exact ⟨rfl, (hI.sub sn)⟩
   ·replace h1 := iteF hc h1
    refine wpC.skip ?_
    refine c_reg1 fun R hR => ?_
    refine o_pure hS (.inl rfl) rfl rfl ?_; clear hS; try clear tm
    intro tm hS
    refine o_pure hS (.inl rfl) rfl rfl ?_; clear hS; try clear tm
    intro tm hS
    refine o_pure hS (.inl rfl) rfl rfl ?_; clear hS; try clear tm
    intro tm hS
    refine o_nil (hR _ _ ?_)
    clear hR R
    obtain rfl := Option.some.inj h1
    refine ⟨_, rfl, ?_⟩
    change S wm 66 _ _ _ _ Fr; exact hS.keep (ka_cons rfl (ka_cons rfl (ka_cons rfl ka_nil))) (fun hI => (hI.sub (sc (sc (sc (sc (sc (sc sn))))))))
  ·replace h1 := iteF hc h1
   refine wpC.exit ?_
   refine seqX ?_
   obtain rfl := Option.some.inj h1
   obtain rfl := hq1 _ rfl
   refine And.intro rfl (blk_eq ?_)
   replace h0 := joinN h0
   refine c_seqS ?_
   refine c_reg fun R hR => ?_
   refine o_pure hS (.inl rfl) rfl rfl ?_; clear hS; try clear tm
   intro tm hS
   refine o_nil (hR _ _ ?_)
   clear hR R
   obtain ⟨k2, hw2, h0⟩ := bindS h0
   refine wpC.block ?_
   refine c_loop (I := fun (s : Int) tm H => match (generalizing := false) s with | i2 => S wm 66 tm H [(2, .pointer (some ⟨b2, 0, none⟩)), (3, .pointer (some ⟨b3, 0, none⟩)), (6, .int .i64 i2)] [.box b2 [.bool a1.Char, v1, v2], .box b3 [.bool b1.Char, v3, v4], .fz (rI .i64) v1 a1.Shape, .fz (rI .i64) v2 a1.Data, .fz (rI .i64) v3 b1.Shape, .fz (rI .i64) v4 b1.Data] Fr) hw2 (by change S wm 66 _ _ _ _ Fr; exact hS.keep (ka_cons rfl (ka_cons rfl (ka_cons rfl ka_nil))) (fun hI => (hI.sub (sc (sc (sc (sc (sc (sc sn))))))))) ?_
   clear hS
   intro i2 tm H c4 hS h3 hq3
   change S wm 66 tm H [(2, .pointer (some ⟨b2, 0, none⟩)), (3, .pointer (some ⟨b3, 0, none⟩)), (6, .int .i64 i2)] [.box b2 [.bool a1.Char, v1, v2], .box b3 [.bool b1.Char, v3, v4], .fz (rI .i64) v1 a1.Shape, .fz (rI .i64) v2 a1.Data, .fz (rI .i64) v3 b1.Shape, .fz (rI .i64) v4 b1.Data] Fr at hS
   refine c_seqS ?_
   refine c_reg fun R hR => ?_
   refine o_pure hS (.inl rfl) rfl rfl ?_; clear hS; try clear tm
   intro tm hS
   refine o_pure hS (.inl rfl) rfl rfl ?_; clear hS; try clear tm
   intro tm hS
   refine o_ld1 (k := 0) hS (.inl rfl) rfl rfl rfl (.inl rfl) Fu22 rfl rfl ?_; clear hS; try clear tm
   intro tm hS
   refine o_len (k := 3) (r := (rI .i64)) hS (.inl rfl) rfl rfl rfl (.inl rfl) Fu22 rfl ?_; clear hS; try clear tm
   intro tm hS
   refine o_pure hS (.inl rfl) rfl rfl ?_; clear hS; try clear tm
   intro tm hS
   refine o_nil (hR _ _ ?_)
   clear hR R
   refine c_cond hS rfl (fun hc => ?_) (fun hc => ?_)
   ·replace h3 := iteT hc h3
    refine wpC.skip ?_
    refine c_seqS ?_
    refine wpC.block ?_
    refine c_reg fun R hR => ?_
    refine o_pure hS (.inl rfl) rfl rfl ?_; clear hS; try clear tm
    intro tm hS
    refine o_ld1 (k := 0) hS (.inl rfl) rfl rfl rfl (.inl rfl) Fu22 rfl rfl ?_; clear hS; try clear tm
    intro tm hS
    refine o_pure hS (.inl rfl) rfl rfl ?_; clear hS; try clear tm
    intro tm hS
    obtain ⟨y3, hx3, h3⟩ := bindS h3
    refine o_ixA (k := 3) (r := (rI .i64)) hS (.inl rfl) rfl rfl rfl rfl (.inl rfl) Fu22 Fs2 hx3 ?_; clear hS; try clear tm
    intro tm hS
    refine o_ldF (r := (rI .i64)) (k := 3) hS (.inl rfl) rfl rfl rfl (.inl rfl) hx3 Fu2 rfl (flat_I _) rfl ?_; clear hS; try clear tm
    intro tm hS
    refine o_pure hS (.inl rfl) rfl rfl ?_; clear hS; try clear tm
    intro tm hS
    refine o_ld1 (k := 1) hS (.inl rfl) rfl rfl rfl (.inl rfl) Fu22 rfl rfl ?_; clear hS; try clear tm
    intro tm hS
    refine o_pure hS (.inl rfl) rfl rfl ?_; clear hS; try clear tm
    intro tm hS
    obtain ⟨y4, hx4, h3⟩ := bindS h3
    refine o_ixA (k := 5) (r := (rI .i64)) hS (.inl rfl) rfl rfl rfl rfl (.inl rfl) Fu22 Fs2 hx4 ?_; clear hS; try clear tm
    intro tm hS
    refine o_ldF (r := (rI .i64)) (k := 5) hS (.inl rfl) rfl rfl rfl (.inl rfl) hx4 Fu2 rfl (flat_I _) rfl ?_; clear hS; try clear tm
    intro tm hS
    refine o_pure hS (.inl rfl) rfl rfl ?_; clear hS; try clear tm
    intro tm hS
    refine o_nil (hR _ _ ?_)
    clear hR R
    refine c_cond hS rfl (fun hc => ?_) (fun hc => ?_)
    ·replace h3 := iteT hc h3
     refine c_reg fun R hR => ?_
     refine o_pure hS (.inl rfl) rfl rfl ?_; clear hS; try clear tm
     intro tm hS
     refine o_nil (hR _ _ ?_)
     clear hR R
     refine wpC.ret ?_
     obtain rfl := Option.some.inj h3
     obtain rfl := hq3 _ rfl
     refine And.intro rfl ?_
     obtain rfl := leave h0
     refine Exists.intro _ (And.intro (rs_tmp hS rfl rs_nil) ?_)
     have hI := hS.inv
     exact ⟨rfl, (hI.sub sn)⟩
    ·replace h3 := iteF hc h3
     refine wpC.skip ?_
     refine c_reg1 fun R hR => ?_
     refine o_pure hS (.inl rfl) rfl rfl ?_; clear hS; try clear tm
     intro tm hS
     refine o_pure hS (.inl rfl) rfl rfl ?_; clear hS; try clear tm
     intro tm hS
     refine o_pure hS (.inl rfl) rfl rfl ?_; clear hS; try clear tm
     intro tm hS
     refine o_nil (hR _ _ ?_)
     clear hR R
     obtain rfl := Option.some.inj h3
     refine ⟨_, rfl, ?_⟩
     change S wm 66 _ _ _ _ Fr; exact hS.keep (ka_cons rfl (ka_cons rfl (ka_cons rfl ka_nil))) (fun hI => (hI.sub (sc (sc (sc (sc (sc (sc sn))))))))
   ·replace h3 := iteF hc h3
    refine wpC.exit ?_
    refine seqX ?_
    obtain rfl := Option.some.inj h3
    obtain rfl := hq3 _ rfl
    refine And.intro rfl (blk_eq ?_)
    replace h0 := joinN h0
    refine c_reg fun R hR => ?_
    refine o_pure hS (.inl rfl) rfl rfl ?_; clear hS; try clear tm
    intro tm hS
    refine o_nil (hR _ _ ?_)
    clear hR R
    refine wpC.ret ?_
    obtain rfl := Option.some.inj h0
    refine Exists.intro _ (And.intro (rs_tmp hS rfl rs_nil) ?_)
    have hI := hS.inv
    exact ⟨rfl, (hI.sub sn)⟩
theorem wk15 {wm : Nat} {H : AHeap} {Fr : List Ent}  (l1 : (List Int))  (v1 : Value) (hI : Kn wm H [.fz (rI .i64) v1 l1] Fr) {r : Val} (h0 : M.anamnesislaw13_vec l1 = some r) :
  wpF Try.prog ora wm 15 [v1] H (fun res H => ∃ v3 v4, res = .agg #[.bool r.Char, v3, v4] ∧ Kn wm H [.own (rI .i64) v3 r.Shape, .fz (rI .i64) v4 r.Data] Fr) := by
 unfold M.anamnesislaw13_vec at h0
 refine f_enter (n := 8) Try.func15 rfl (by simp) hI rfl rfl rfl fun tm hS => ?_
 clear hI
 refine c_reg fun R hR => ?_
 refine o_alloc hS (.inl rfl) rfl Fz25 (by decide) ?_; clear hS; try clear tm H
 intro b1 tm H hS
 refine o_nil (hR _ _ ?_)
 clear hR R
 refine c_reg fun R hR => ?_
 refine o_pure hS (.inl rfl) rfl rfl ?_; clear hS; try clear tm
 intro tm hS
 refine o_len (k := 1) (r := (rI .i64)) hS (.inl rfl) rfl rfl rfl (.inl rfl) Fu22 rfl ?_; clear hS; try clear tm
 intro tm hS
 refine o_lit (r := (rI .i64)) (l := [(l1.length : Int)]) hS (.inl rfl) rfl Fl23 rfl rfl rfl (.cons rfl .nil) rfl rfl (ri_1 (rd_flat fun _ => rfl) ri_nil) rfl ?_; clear hS; try clear tm H
 intro v2 tm H hS
 refine o_pure hS (.inl rfl) rfl rfl ?_; clear hS; try clear tm
 intro tm hS
 refine o_build hS (.inl rfl) rfl Fb25 rfl (.cons (cells_one (hS.one (k := 0) rfl (.inr (.inr rfl)))) (.cons (cells_one (hS.one (k := 2) rfl (.inl rfl))) .nil)) rfl ?_; clear hS; try clear tm
 intro tm hS
 refine o_st (k := 1) hS (.inl rfl) rfl rfl rfl Fs25 rfl rfl (all_cons rfl (all_cons (hS.one (k := 0) rfl (.inr (.inr rfl))) (all_cons (hS.one (k := 2) rfl (.inl rfl)) all_nil))) rfl ?_; clear hS; try clear H
 intro H hS
 refine o_nil (hR _ _ ?_)
 clear hR R
 refine wpC.ret ?_
 obtain rfl := Option.some.inj h0
 replace hS := hS.litOwn (k := 0) rfl
 refine Exists.intro _ (And.intro (rs_cellA (k := 1) hS rfl rfl (.inl rfl) Fu25 rfl Fs25 rfl rs_nil) ?_)
 have hI := hS.inv
 exact ⟨v2, v1, rfl, (hI.sub (sc (sd (sc sn))))⟩
theorem wk5 {wm : Nat} {H : AHeap} {Fr : List Ent} (ho19 : ora 19 = true) (a1 : Int) (b1 : Int) (draws1 : (List Int)) (behind1 : (List Int))  (v1 : Value) (v2 : Value) (hI : Kn wm H [.fz (rI .u64) v1 draws1, .fz (rI .u64) v2 behind1] Fr) {r : Bool} (h0 : M.anamnesislaw13_RandDeals a1 b1 draws1 behind1 = some r) :
  wpF Try.prog ora wm 5 [.int .u8 a1, .int .u8 b1, v1, v2] H (fun res H => res = .bool r ∧ Kn wm H [] Fr) := by
 unfold M.anamnesislaw13_RandDeals at h0
 refine f_enter (n := 152) Try.func5 rfl (by simp) hI rfl rfl rfl fun tm hS => ?_
 clear hI
 refine c_reg fun R hR => ?_
 refine o_pure hS (.inl rfl) rfl rfl ?_; clear hS; try clear tm
 intro tm hS
 refine o_nil (hR _ _ ?_)
 clear hR R
 refine c_reg fun R hR => ?_
 refine o_pure hS (.inl rfl) rfl rfl ?_; clear hS; try clear tm
 intro tm hS
 refine o_pure hS (.inl rfl) rfl rfl ?_; clear hS; try clear tm
 intro tm hS
 refine o_pure hS (.inl rfl) rfl rfl ?_; clear hS; try clear tm
 intro tm hS
 refine o_pure hS (.inl rfl) rfl rfl ?_; clear hS; try clear tm
 intro tm hS
 refine o_nil (hR _ _ ?_)
 clear hR R
 refine c_reg fun R hR => ?_
 refine o_pure hS (.inl rfl) rfl rfl ?_; clear hS; try clear tm
 intro tm hS
 refine o_pure hS (.inl rfl) rfl rfl ?_; clear hS; try clear tm
 intro tm hS
 refine o_pure hS (.inl rfl) rfl rfl ?_; clear hS; try clear tm
 intro tm hS
 refine o_pure hS (.inl rfl) rfl rfl ?_; clear hS; try clear tm
 intro tm hS
 obtain ⟨q1, hx1, h0⟩ := bindS h0
 refine o_rem hS (.inl rfl) rfl rfl rfl hx1 ?_; clear hS; try clear tm
 intro tm hS
 refine o_pure hS (.inl rfl) rfl rfl ?_; clear hS; try clear tm
 intro tm hS
 refine o_nil (hR _ _ ?_)
 clear hR R
 refine c_reg fun R hR => ?_
 refine o_pure hS (.inl rfl) rfl rfl ?_; clear hS; try clear tm
 intro tm hS
 refine o_nil (hR _ _ ?_)
 clear hR R
 refine c_seqS ?_
 refine c_reg fun R hR => ?_
 refine o_pure hS (.inl rfl) rfl rfl ?_; clear hS; try clear tm
 intro tm hS
 refine o_nil (hR _ _ ?_)
 clear hR R
 obtain ⟨k1, hw1, h0⟩ := bindS h0
 refine wpC.block ?_
 replace hS := hS.nilOwn (rI .u64)
 refine c_loop (I := fun (s : (List Int) × Int) tm H => match (generalizing := false) s with | (used1, i1) => ∃ v3, S wm 152 tm H [(2, v1), (3, v2), (9, .int .i64 (IntKind.i64.wrap (Int.tmod b1 61))), (10, .int .i64 q1), (11, v3), (12, .int .i64 i1)] [.own (rI .u64) v3 used1, .fz (rI .u64) v1 draws1, .fz (rI .u64) v2 behind1] Fr) hw1 (by refine Exists.intro (.slice none 0 0) ?_; change S wm 152 _ _ _ _ Fr; exact hS.keep (ka_cons rfl (ka_cons rfl (ka_cons rfl (ka_cons rfl (ka_cons rfl (ka_cons rfl ka_nil)))))) (fun hI => (hI.sub (sc (sc (sc sn)))))) ?_
 clear hS
 intro s1 tm H c1 hS h2 hq2
 obtain ⟨used1, i1⟩ := s1
 obtain ⟨v3, hS⟩ := hS
 change S wm 152 tm H [(2, v1), (3, v2), (9, .int .i64 (IntKind.i64.wrap (Int.tmod b1 61))), (10, .int .i64 q1), (11, v3), (12, .int .i64 i1)] [.own (rI .u64) v3 used1, .fz (rI .u64) v1 draws1, .fz (rI .u64) v2 behind1] Fr at hS
 refine c_seqS ?_
 refine c_reg fun R hR => ?_
 refine o_pure hS (.inl rfl) rfl rfl ?_; clear hS; try clear tm
 intro tm hS
 refine o_pure hS (.inl rfl) rfl rfl ?_; clear hS; try clear tm
 intro tm hS
 refine o_pure hS (.inl rfl) rfl rfl ?_; clear hS; try clear tm
 intro tm hS
 refine o_nil (hR _ _ ?_)
 clear hR R
 refine c_cond hS rfl (fun hc => ?_) (fun hc => ?_)
 ·replace h2 := iteT hc h2
  refine wpC.skip ?_
  refine c_seqS ?_
  refine wpC.block ?_
  refine c_reg fun R hR => ?_
  refine o_pure hS (.inl rfl) rfl rfl ?_; clear hS; try clear tm
  intro tm hS
  refine o_nil (hR _ _ ?_)
  clear hR R
  obtain ⟨d1, h5, h2⟩ := bindS h2
  refine c_seqJ (J := fun tm H => (match (generalizing := false) d1 with | d1 => S wm 152 tm H [(2, v1), (3, v2), (9, .int .i64 (IntKind.i64.wrap (Int.tmod b1 61))), (10, .int .i64 q1), (11, v3), (12, .int .i64 i1), (13, .int .u64 d1)] [.fz (rI .u64) v1 draws1, .fz (rI .u64) v2 behind1, .own (rI .u64) v3 used1] Fr)) ?_ ?_
  ·refine c_reg fun R hR => ?_
   refine o_pure hS (.inl rfl) rfl rfl ?_; clear hS; try clear tm
   intro tm hS
   refine o_pure hS (.inl rfl) rfl rfl ?_; clear hS; try clear tm
   intro tm hS
   refine o_len (k := 1) (r := (rI .u64)) hS (.inl rfl) rfl rfl rfl (.inl rfl) Fu30 rfl ?_; clear hS; try clear tm
   intro tm hS
   refine o_pure hS (.inl rfl) rfl rfl ?_; clear hS; try clear tm
   intro tm hS
   refine o_nil (hR _ _ ?_)
   clear hR R
   refine c_cond hS rfl (fun hc => ?_) (fun hc => ?_)
   ·replace h5 := iteT hc h5
    refine c_reg1 fun R hR => ?_
    refine o_pure hS (.inl rfl) rfl rfl ?_; clear hS; try clear tm
    intro tm hS
    refine o_pure hS (.inl rfl) rfl rfl ?_; clear hS; try clear tm
    intro tm hS
    obtain ⟨y1, hx2, h5⟩ := bindS h5
    refine o_ixA (k := 1) (r := (rI .u64)) hS (.inl rfl) rfl rfl rfl rfl (.inl rfl) Fu30 Fs44 hx2 ?_; clear hS; try clear tm
    intro tm hS
    refine o_ldF (r := (rI .u64)) (k := 1) hS (.inl rfl) rfl rfl rfl (.inl rfl) hx2 Fu44 rfl (flat_I _) rfl ?_; clear hS; try clear tm
    intro tm hS
    refine o_pure hS (.inl rfl) rfl rfl ?_; clear hS; try clear tm
    intro tm hS
    refine o_nil (hR _ _ ?_)
    clear hR R
    obtain rfl := Option.some.inj h5
    change S wm 152 _ _ _ _ Fr; exact hS.keep (ka_cons rfl (ka_cons rfl (ka_cons rfl (ka_cons rfl (ka_cons rfl (ka_cons rfl (ka_cons rfl ka_nil))))))) (fun hI => ((((hI.pull 0 rfl).pull 2 rfl).pull 2 rfl).take 3))
   ·replace h5 := iteF hc h5
    refine wpC.skip ?_
    obtain rfl := Option.some.inj h5
    change S wm 152 _ _ _ _ Fr; exact hS.keep (ka_cons rfl (ka_cons rfl (ka_cons rfl (ka_cons rfl (ka_cons rfl (ka_cons rfl (ka_cons rfl ka_nil))))))) (fun hI => ((((hI.pull 0 rfl).pull 2 rfl).pull 2 rfl).take 3))
  intro tm H hS
  change S wm 152 tm H [(2, v1), (3, v2), (9, .int .i64 (IntKind.i64.wrap (Int.tmod b1 61))), (10, .int .i64 q1), (11, v3), (12, .int .i64 i1), (13, .int .u64 d1)] [.fz (rI .u64) v1 draws1, .fz (rI .u64) v2 behind1, .own (rI .u64) v3 used1] Fr at hS
  refine c_reg1 fun R hR => ?_
  refine o_pure hS (.inl rfl) rfl rfl ?_; clear hS; try clear tm
  intro tm hS
  refine o_pure hS (.inl rfl) rfl rfl ?_; clear hS; try clear tm
  intro tm hS
  refine o_lit (r := (rI .u64)) (l := [d1]) hS (.inl rfl) rfl Fl30 rfl rfl rfl (.cons rfl .nil) rfl rfl (ri_1 (rd_flat fun _ => rfl) ri_nil) rfl ?_; clear hS; try clear tm H
  intro v4 tm H hS
  obtain ⟨l1, hx3, h2⟩ := bindS h2
  refine o_app (k1 := 3) (k2 := 0) (r := (rI .u64)) hS (.inl rfl) rfl rfl rfl rfl rfl (.inr (.inr rfl)) rfl Fe30_30 rfl hx3 ?_; clear hS; try clear tm H
  intro v5 tm H hS
  refine o_pure hS (.inl rfl) rfl rfl ?_; clear hS; try clear tm
  intro tm hS
  refine o_nil (hR _ _ ?_)
  clear hR R
  refine c_reg1 fun R hR => ?_
  refine o_pure hS (.inl rfl) rfl rfl ?_; clear hS; try clear tm
  intro tm hS
  refine o_pure hS (.inl rfl) rfl rfl ?_; clear hS; try clear tm
  intro tm hS
  refine o_pure hS (.inl rfl) rfl rfl ?_; clear hS; try clear tm
  intro tm hS
  refine o_nil (hR _ _ ?_)
  clear hR R
  obtain rfl := Option.some.inj h2
  refine ⟨_, rfl, ?_⟩
  refine Exists.intro v5 ?_; change S wm 152 _ _ _ _ Fr; exact hS.keep (ka_cons rfl (ka_cons rfl (ka_cons rfl (ka_cons rfl (ka_cons rfl (ka_cons rfl ka_nil)))))) (fun hI => ((((hI.pull 2 rfl).pull 2 rfl).pull 3 rfl).take 3))
 ·replace h2 := iteF hc h2
  refine wpC.exit ?_
  refine seqX ?_
  obtain rfl := Option.some.inj h2
  obtain rfl := hq2 _ rfl
  refine And.intro rfl (blk_eq ?_)
  replace h0 := joinN h0
  refine c_reg fun R hR => ?_
  refine o_pure hS (.inl rfl) rfl rfl ?_; clear hS; try clear tm
  intro tm hS
  obtain ⟨r1, hx4, h0⟩ := bindS h0
  refine o_call hS (.inl rfl) rfl (fun wm' hw1 hw2 => wk13  q1   (hS.sel hw2) hx4) (fun wm' res H hw' hp => ?_)
  obtain ⟨v6, v7, hres, hI⟩ := hp
  replace hres := hres.symm; subst hres
  replace hS : S wm 152 _ H ((53, .agg #[.bool r1.Char, v6, v7]) :: _) ([.own (rI .i64) v6 r1.Shape, .own (rI .i64) v7 r1.Data] ++ _) Fr := hS.after rfl hw' hI
  clear hI hw'
  refine o_pure hS (.inl rfl) rfl rfl ?_; clear hS; try clear tm
  intro tm hS
  obtain ⟨r2, hx5, h0⟩ := bindS h0
  refine o_call hS (.inl rfl) rfl (fun wm' hw1 hw2 => wk13  (IntKind.i64.wrap (Int.tmod b1 61))   (hS.sel hw2) hx5) (fun wm' res H hw' hp => ?_)
  obtain ⟨v8, v9, hres, hI⟩ := hp
  replace hres := hres.symm; subst hres
  replace hS : S wm 152 _ H ((55, .agg #[.bool r2.Char, v8, v9]) :: _) ([.own (rI .i64) v8 r2.Shape, .own (rI .i64) v9 r2.Data] ++ _) Fr := hS.after rfl hw' hI
  clear hI hw'
  refine o_pure hS (.inl rfl) rfl rfl ?_; clear hS; try clear tm
  intro tm hS
  obtain ⟨⟨r3, r4, r5⟩, hx6, h0⟩ := bindS h0
  refine o_call (Pc := fun _ res H => ∃ v10 v11, res = .tuple #[.agg #[.bool r3.Char, v10, v11], .int .i64 r4, .int .i64 r5] ∧ Kn wm H ([.own (rI .i64) v10 r3.Shape, .own (rI .i64) v11 r3.Data] ++ [.own (rI .i64) v8 r2.Shape, .own (rI .i64) v9 r2.Data, .own (rI .i64) v6 r1.Shape, .own (rI .i64) v7 r1.Data, .own (rI .u64) v3 used1, .fz (rI .u64) v1 draws1, .fz (rI .u64) v2 behind1]) Fr) hS (.inl rfl) rfl (fun wm' hw1 hw2 => by
   obtain ⟨F2, k1, k2⟩ := hS.inv.lendR (La := [.fz (rI .i64) v6 r1.Shape, .fz (rI .i64) v7 r1.Data, .fz (rI .i64) v8 r2.Shape, .fz (rI .i64) v9 r2.Data, .fz (rI .u64) v1 draws1]) (List.forall_mem_cons.mpr ⟨(.inr ⟨_, _, _, _, rfl, .inl (List.mem_of_getElem? (i := 2) rfl)⟩), (List.forall_mem_cons.mpr ⟨(.inr ⟨_, _, _, _, rfl, .inl (List.mem_of_getElem? (i := 3) rfl)⟩), (List.forall_mem_cons.mpr ⟨(.inr ⟨_, _, _, _, rfl, .inl (List.mem_of_getElem? (i := 0) rfl)⟩), (List.forall_mem_cons.mpr ⟨(.inr ⟨_, _, _, _, rfl, .inl (List.mem_of_getElem? (i := 1) rfl)⟩), (List.forall_mem_cons.mpr ⟨(.inl ⟨rfl, List.mem_of_getElem? (i := 5) rfl⟩), (fun _ h => by cases h)⟩)⟩)⟩)⟩)⟩) hw1 hw2
   exact (wk22  r1 r2 draws1 0  v6 v7 v8 v9 v1 k1 hx6).mono fun res H2 ⟨v10, v11, q1, q2⟩ => ⟨v10, v11, q1, k2 _ _ (List.forall_mem_cons.mpr ⟨⟨_, _, _, _, rfl, fun _ _ _ _ h => h⟩, (List.forall_mem_cons.mpr ⟨⟨_, _, _, _, rfl, fun _ _ _ _ h => h⟩, (fun _ h => by cases h)⟩)⟩) q2⟩) (fun wm' res H hw' hp => ?_)
  obtain ⟨v10, v11, hres, hI⟩ := hp
  replace hres := hres.symm; subst hres
  replace hS : S wm 152 _ H ((57, .tuple #[.agg #[.bool r3.Char, v10, v11], .int .i64 r4, .int .i64 r5]) :: _) ([.own (rI .i64) v10 r3.Shape, .own (rI .i64) v11 r3.Data] ++ [.own (rI .i64) v8 r2.Shape, .own (rI .i64) v9 r2.Data, .own (rI .i64) v6 r1.Shape, .own (rI .i64) v7 r1.Data, .own (rI .u64) v3 used1, .fz (rI .u64) v1 draws1, .fz (rI .u64) v2 behind1]) Fr := (hS.put rfl _).withK hI
  clear hI hw'
  refine o_pure hS (.inl rfl) rfl rfl ?_; clear hS; try clear tm
  intro tm hS
  refine o_pure hS (.inl rfl) rfl rfl ?_; clear hS; try clear tm
  intro tm hS
  refine o_pure hS (.inl rfl) rfl rfl ?_; clear hS; try clear tm
  intro tm hS
  refine o_pure hS (.inl rfl) rfl rfl ?_; clear hS; try clear tm
  intro tm hS
  refine o_alloc hS (.inl rfl) rfl Fz25 (by decide) ?_; clear hS; try clear tm H
  intro b2 tm H hS
  refine o_st (k := 0) hS (.inl rfl) rfl rfl rfl Fs25 rfl rfl (all_cons rfl (all_cons (hS.one (k := 1) rfl (.inr (.inl rfl))) (all_cons (hS.one (k := 2) rfl (.inr (.inl rfl))) all_nil))) rfl ?_; clear hS; try clear H
  intro H hS
  refine o_pure hS (.inl rfl) rfl rfl ?_; clear hS; try clear tm
  intro tm hS
  refine o_pure hS (.inl rfl) rfl rfl ?_; clear hS; try clear tm
  intro tm hS
  refine o_nil (hR _ _ ?_)
  clear hR R
  refine c_reg fun R hR => ?_
  refine o_pure hS (.inl rfl) rfl rfl ?_; clear hS; try clear tm
  intro tm hS
  obtain ⟨r6, hx7, h0⟩ := bindS h0
  refine o_call hS (.inl rfl) rfl (fun wm' hw1 hw2 => wk13  q1   (hS.sel hw2) hx7) (fun wm' res H hw' hp => ?_)
  obtain ⟨v12, v13, hres, hI⟩ := hp
  replace hres := hres.symm; subst hres
  replace hS : S wm 152 _ H ((63, .agg #[.bool r6.Char, v12, v13]) :: _) ([.own (rI .i64) v12 r6.Shape, .own (rI .i64) v13 r6.Data] ++ _) Fr := hS.after rfl hw' hI
  clear hI hw'
  refine o_pure hS (.inl rfl) rfl rfl ?_; clear hS; try clear tm
  intro tm hS
  obtain ⟨r7, hx8, h0⟩ := bindS h0
  refine o_call hS (.inl rfl) rfl (fun wm' hw1 hw2 => wk13  (IntKind.i64.wrap (Int.tmod b1 61))   (hS.sel hw2) hx8) (fun wm' res H hw' hp => ?_)
  obtain ⟨v14, v15, hres, hI⟩ := hp
  replace hres := hres.symm; subst hres
  replace hS : S wm 152 _ H ((65, .agg #[.bool r7.Char, v14, v15]) :: _) ([.own (rI .i64) v14 r7.Shape, .own (rI .i64) v15 r7.Data] ++ _) Fr := hS.after rfl hw' hI
  clear hI hw'
  refine o_pure hS (.inl rfl) rfl rfl ?_; clear hS; try clear tm
  intro tm hS
  refine o_pure hS (.inl rfl) rfl rfl ?_; clear hS; try clear tm
  intro tm hS
  obtain ⟨l2, hx9, h0⟩ := bindS h0
  refine o_app (k1 := 11) (k2 := 13) (r := (rI .u64)) hS (.inl rfl) rfl rfl rfl rfl rfl (.inl rfl) rfl Fe30_30 rfl hx9 ?_; clear hS; try clear tm H
  intro v16 tm H hS
  obtain ⟨⟨r8, r9, r10⟩, hx10, h0⟩ := bindS h0
  refine o_call (Pc := fun _ res H => ∃ v17 v18, res = .tuple #[.agg #[.bool r8.Char, v17, v18], .int .i64 r9, .int .i64 r10] ∧ Kn wm H ([.own (rI .i64) v17 r8.Shape, .own (rI .i64) v18 r8.Data] ++ [.own (rI .i64) v14 r7.Shape, .own (rI .i64) v15 r7.Data, .own (rI .i64) v12 r6.Shape, .own (rI .i64) v13 r6.Data, .box b2 [.bool r3.Char, v10, v11], .own (rI .i64) v10 r3.Shape, .own (rI .i64) v11 r3.Data, .own (rI .i64) v8 r2.Shape, .own (rI .i64) v9 r2.Data, .own (rI .i64) v6 r1.Shape, .own (rI .i64) v7 r1.Data, .own (rI .u64) v16 l2, .fz (rI .u64) v1 draws1, .fz (rI .u64) v2 behind1]) Fr) hS (.inl rfl) rfl (fun wm' hw1 hw2 => by
   obtain ⟨F2, k1, k2⟩ := hS.inv.lendR (La := [.fz (rI .i64) v12 r6.Shape, .fz (rI .i64) v13 r6.Data, .fz (rI .i64) v14 r7.Shape, .fz (rI .i64) v15 r7.Data, .fz (rI .u64) v16 l2]) (List.forall_mem_cons.mpr ⟨(.inr ⟨_, _, _, _, rfl, .inl (List.mem_of_getElem? (i := 2) rfl)⟩), (List.forall_mem_cons.mpr ⟨(.inr ⟨_, _, _, _, rfl, .inl (List.mem_of_getElem? (i := 3) rfl)⟩), (List.forall_mem_cons.mpr ⟨(.inr ⟨_, _, _, _, rfl, .inl (List.mem_of_getElem? (i := 0) rfl)⟩), (List.forall_mem_cons.mpr ⟨(.inr ⟨_, _, _, _, rfl, .inl (List.mem_of_getElem? (i := 1) rfl)⟩), (List.forall_mem_cons.mpr ⟨(.inr ⟨_, _, _, _, rfl, .inl (List.mem_of_getElem? (i := 11) rfl)⟩), (fun _ h => by cases h)⟩)⟩)⟩)⟩)⟩) hw1 hw2
   exact (wk22  r6 r7 l2 0  v12 v13 v14 v15 v16 k1 hx10).mono fun res H2 ⟨v17, v18, q1, q2⟩ => ⟨v17, v18, q1, k2 _ _ (List.forall_mem_cons.mpr ⟨⟨_, _, _, _, rfl, fun _ _ _ _ h => h⟩, (List.forall_mem_cons.mpr ⟨⟨_, _, _, _, rfl, fun _ _ _ _ h => h⟩, (fun _ h => by cases h)⟩)⟩) q2⟩) (fun wm' res H hw' hp => ?_)
  obtain ⟨v17, v18, hres, hI⟩ := hp
  replace hres := hres.symm; subst hres
  replace hS : S wm 152 _ H ((69, .tuple #[.agg #[.bool r8.Char, v17, v18], .int .i64 r9, .int .i64 r10]) :: _) ([.own (rI .i64) v17 r8.Shape, .own (rI .i64) v18 r8.Data] ++ [.own (rI .i64) v14 r7.Shape, .own (rI .i64) v15 r7.Data, .own (rI .i64) v12 r6.Shape, .own (rI .i64) v13 r6.Data, .box b2 [.bool r3.Char, v10, v11], .own (rI .i64) v10 r3.Shape, .own (rI .i64) v11 r3.Data, .own (rI .i64) v8 r2.Shape, .own (rI .i64) v9 r2.Data, .own (rI .i64) v6 r1.Shape, .own (rI .i64) v7 r1.Data, .own (rI .u64) v16 l2, .fz (rI .u64) v1 draws1, .fz (rI .u64) v2 behind1]) Fr := (hS.put rfl _).withK hI
  clear hI hw'
  refine o_pure hS (.inl rfl) rfl rfl ?_; clear hS; try clear tm
  intro tm hS
  refine o_pure hS (.inl rfl) rfl rfl ?_; clear hS; try clear tm
  intro tm hS
  refine o_pure hS (.inl rfl) rfl rfl ?_; clear hS; try clear tm
  intro tm hS
  refine o_pure hS (.inl rfl) rfl rfl ?_; clear hS; try clear tm
  intro tm hS
  refine o_alloc hS (.inl rfl) rfl Fz25 (by decide) ?_; clear hS; try clear tm H
  intro b3 tm H hS
  refine o_st (k := 0) hS (.inl rfl) rfl rfl rfl Fs25 rfl rfl (all_cons rfl (all_cons (hS.one (k := 1) rfl (.inr (.inl rfl))) (all_cons (hS.one (k := 2) rfl (.inr (.inl rfl))) all_nil))) rfl ?_; clear hS; try clear H
  intro H hS
  refine o_pure hS (.inl rfl) rfl rfl ?_; clear hS; try clear tm
  intro tm hS
  refine o_pure hS (.inl rfl) rfl rfl ?_; clear hS; try clear tm
  intro tm hS
  refine o_nil (hR _ _ ?_)
  clear hR R
  refine c_seqS ?_
  refine c_reg fun R hR => ?_
  refine o_pure hS (.inl rfl) rfl rfl ?_; clear hS; try clear tm
  intro tm hS
  refine o_pure hS (.inl rfl) rfl rfl ?_; clear hS; try clear tm
  intro tm hS
  refine o_pure hS (.inl rfl) rfl rfl ?_; clear hS; try clear tm
  intro tm hS
  obtain ⟨c2, hc1⟩ : ∃ x : Bool, x = ((r5 != 0) || (r10 != 0)) := ⟨_, rfl⟩
  refine o_cutN 3 (J := fun tm H => S wm 152 tm H [(78, .bool c2), (2, v1), (9, .int .i64 (IntKind.i64.wrap (Int.tmod b1 61))), (10, .int .i64 q1), (14, .pointer (some ⟨b2, 0, none⟩)), (15, .int .i64 r4), (17, .pointer (some ⟨b3, 0, none⟩))] [.box b3 [.bool r8.Char, v17, v18], .own (rI .i64) v17 r8.Shape, .own (rI .i64) v18 r8.Data, .box b2 [.bool r3.Char, v10, v11], .own (rI .i64) v10 r3.Shape, .own (rI .i64) v11 r3.Data, .fz (rI .u64) v1 draws1] Fr) ?_ ?_
  ·rcases Bool.eq_false_or_eq_true (r5 != 0) with hg1 | hg1
   ·refine o_skip hS rfl rfl rfl hg1 ?_; clear hS; try clear tm
    intro tm hS
    refine o_skip hS rfl rfl rfl hg1 ?_; clear hS; try clear tm
    intro tm hS
    refine o_pickT hS (.inl rfl) rfl rfl hg1 rfl ?_; clear hS; try clear tm
    intro tm hS
    have hc1 : c2 = true := hc1.trans (by rw [hg1]; first | rfl | simp)
    subst hc1
    exact o_nil (hS.keep (ka_cons rfl (ka_cons rfl (ka_cons rfl (ka_cons rfl (ka_cons rfl (ka_cons rfl (ka_cons rfl ka_nil))))))) (fun hI => (hI.sub (sc (sc (sc (sd (sd (sd (sd (sc (sc (sc (sd (sd (sd (sd (sd (sc sn)))))))))))))))))))
   ·refine o_pure hS (.inr ⟨_, _, _, _, rfl, rfl, rfl, hg1⟩) rfl rfl ?_; clear hS; try clear tm
    intro tm hS
    refine o_pure hS (.inr ⟨_, _, _, _, rfl, rfl, rfl, hg1⟩) rfl rfl ?_; clear hS; try clear tm
    intro tm hS
    refine o_pickF hS (.inl rfl) rfl rfl hg1 rfl ?_; clear hS; try clear tm
    intro tm hS
    have hc1 : c2 = (r10 != 0) := hc1.trans (by rw [hg1]; first | rfl | simp)
    subst hc1
    exact o_nil (hS.keep (ka_cons rfl (ka_cons rfl (ka_cons rfl (ka_cons rfl (ka_cons rfl (ka_cons rfl (ka_cons rfl ka_nil))))))) (fun hI => (hI.sub (sc (sc (sc (sd (sd (sd (sd (sc (sc (sc (sd (sd (sd (sd (sd (sc sn)))))))))))))))))))
  intro tm H hS
  subst hc1
  refine o_pure hS (.inl rfl) rfl rfl ?_; clear hS; try clear tm
  intro tm hS
  obtain ⟨c3, hc2⟩ : ∃ x : Bool, x = (((r5 != 0) || (r10 != 0)) || (r4 != q1)) := ⟨_, rfl⟩
  refine o_cutN 4 (J := fun tm H => S wm 152 tm H [(83, .bool c3), (2, v1), (9, .int .i64 (IntKind.i64.wrap (Int.tmod b1 61))), (10, .int .i64 q1), (14, .pointer (some ⟨b2, 0, none⟩)), (17, .pointer (some ⟨b3, 0, none⟩))] [.box b3 [.bool r8.Char, v17, v18], .own (rI .i64) v17 r8.Shape, .own (rI .i64) v18 r8.Data, .box b2 [.bool r3.Char, v10, v11], .own (rI .i64) v10 r3.Shape, .own (rI .i64) v11 r3.Data, .fz (rI .u64) v1 draws1] Fr) ?_ ?_
  ·rcases Bool.eq_false_or_eq_true ((r5 != 0) || (r10 != 0)) with hg2 | hg2
   ·refine o_skip hS rfl rfl rfl hg2 ?_; clear hS; try clear tm
    intro tm hS
    refine o_skip hS rfl rfl rfl hg2 ?_; clear hS; try clear tm
    intro tm hS
    refine o_skip hS rfl rfl rfl hg2 ?_; clear hS; try clear tm
    intro tm hS
    refine o_pickT hS (.inl rfl) rfl rfl hg2 rfl ?_; clear hS; try clear tm
    intro tm hS
    have hc2 : c3 = true := hc2.trans (by rw [hg2]; first | rfl | simp)
    subst hc2
    exact o_nil (hS.keep (ka_cons rfl (ka_cons rfl (ka_cons rfl (ka_cons rfl (ka_cons rfl (ka_cons rfl ka_nil)))))) (fun hI => (hI.sub (sc (sc (sc (sc (sc (sc (sc sn))))))))))
   ·refine o_pure hS (.inr ⟨_, _, _, _, rfl, rfl, rfl, hg2⟩) rfl rfl ?_; clear hS; try clear tm
    intro tm hS
    refine o_pure hS (.inr ⟨_, _, _, _, rfl, rfl, rfl, hg2⟩) rfl rfl ?_; clear hS; try clear tm
    intro tm hS
    refine o_pure hS (.inr ⟨_, _, _, _, rfl, rfl, rfl, hg2⟩) rfl rfl ?_; clear hS; try clear tm
    intro tm hS
    refine o_pickF hS (.inl rfl) rfl rfl hg2 rfl ?_; clear hS; try clear tm
    intro tm hS
    have hc2 : c3 = (r4 != q1) := hc2.trans (by rw [hg2]; first | rfl | simp)
    subst hc2
    exact o_nil (hS.keep (ka_cons rfl (ka_cons rfl (ka_cons rfl (ka_cons rfl (ka_cons rfl (ka_cons rfl ka_nil)))))) (fun hI => (hI.sub (sc (sc (sc (sc (sc (sc (sc sn))))))))))
  intro tm H hS
  subst hc2
  refine o_pure hS (.inl rfl) rfl rfl ?_; clear hS; try clear tm
  intro tm hS
  obtain ⟨c4, hc3⟩ : ∃ x : Bool, x = ((((r5 != 0) || (r10 != 0)) || (r4 != q1)) || ((r3.Data.length : Int) != q1)) := ⟨_, rfl⟩
  refine o_cutN 6 (J := fun tm H => S wm 152 tm H [(90, .bool c4), (2, v1), (9, .int .i64 (IntKind.i64.wrap (Int.tmod b1 61))), (10, .int .i64 q1), (14, .pointer (some ⟨b2, 0, none⟩)), (17, .pointer (some ⟨b3, 0, none⟩))] [.box b3 [.bool r8.Char, v17, v18], .own (rI .i64) v17 r8.Shape, .own (rI .i64) v18 r8.Data, .box b2 [.bool r3.Char, v10, v11], .own (rI .i64) v10 r3.Shape, .own (rI .i64) v11 r3.Data, .fz (rI .u64) v1 draws1] Fr) ?_ ?_
  ·rcases Bool.eq_false_or_eq_true (((r5 != 0) || (r10 != 0)) || (r4 != q1)) with hg3 | hg3
   ·refine o_skip hS rfl rfl rfl hg3 ?_; clear hS; try clear tm
    intro tm hS
    refine o_skip hS rfl rfl rfl hg3 ?_; clear hS; try clear tm
    intro tm hS
    refine o_skip hS rfl rfl rfl hg3 ?_; clear hS; try clear tm
    intro tm hS
    refine o_skip hS rfl rfl rfl hg3 ?_; clear hS; try clear tm
    intro tm hS
    refine o_skip hS rfl rfl rfl hg3 ?_; clear hS; try clear tm
    intro tm hS
    refine o_pickT hS (.inl rfl) rfl rfl hg3 rfl ?_; clear hS; try clear tm
    intro tm hS
    have hc3 : c4 = true := hc3.trans (by rw [hg3]; first | rfl | simp)
    subst hc3
    exact o_nil (hS.keep (ka_cons rfl (ka_cons rfl (ka_cons rfl (ka_cons rfl (ka_cons rfl (ka_cons rfl ka_nil)))))) (fun hI => (hI.sub (sc (sc (sc (sc (sc (sc (sc sn))))))))))
   ·refine o_pure hS (.inr ⟨_, _, _, _, rfl, rfl, rfl, hg3⟩) rfl rfl ?_; clear hS; try clear tm
    intro tm hS
    refine o_ld1 (k := 3) hS (.inr ⟨_, _, _, _, rfl, rfl, rfl, hg3⟩) rfl rfl rfl (.inl rfl) Fu22 rfl rfl ?_; clear hS; try clear tm
    intro tm hS
    refine o_len (k := 5) (r := (rI .i64)) hS (.inr ⟨_, _, _, _, rfl, rfl, rfl, hg3⟩) rfl rfl rfl (.inr (.inl rfl)) Fu22 rfl ?_; clear hS; try clear tm
    intro tm hS
    refine o_pure hS (.inr ⟨_, _, _, _, rfl, rfl, rfl, hg3⟩) rfl rfl ?_; clear hS; try clear tm
    intro tm hS
    refine o_pure hS (.inr ⟨_, _, _, _, rfl, rfl, rfl, hg3⟩) rfl rfl ?_; clear hS; try clear tm
    intro tm hS
    refine o_pickF hS (.inl rfl) rfl rfl hg3 rfl ?_; clear hS; try clear tm
    intro tm hS
    have hc3 : c4 = ((r3.Data.length : Int) != q1) := hc3.trans (by rw [hg3]; first | rfl | simp)
    subst hc3
    exact o_nil (hS.keep (ka_cons rfl (ka_cons rfl (ka_cons rfl (ka_cons rfl (ka_cons rfl (ka_cons rfl ka_nil)))))) (fun hI => (hI.sub (sc (sc (sc (sc (sc (sc (sc sn))))))))))
  intro tm H hS
  subst hc3
  refine o_pure hS (.inl rfl) rfl rfl ?_; clear hS; try clear tm
  intro tm hS
  obtain ⟨c5, hc4, h0⟩ := bindS h0
  refine o_cutN 5 (J := fun tm H => S wm 152 tm H [(96, .bool c5), (2, v1), (9, .int .i64 (IntKind.i64.wrap (Int.tmod b1 61))), (10, .int .i64 q1), (14, .pointer (some ⟨b2, 0, none⟩))] [.box b2 [.bool r3.Char, v10, v11], .own (rI .i64) v10 r3.Shape, .own (rI .i64) v11 r3.Data, .fz (rI .u64) v1 draws1] Fr) ?_ ?_
  ·rcases Bool.eq_false_or_eq_true ((((r5 != 0) || (r10 != 0)) || (r4 != q1)) || ((r3.Data.length : Int) != q1)) with hg4 | hg4
   ·replace hc4 := iteT hg4 hc4
    refine o_skip hS rfl rfl rfl hg4 ?_; clear hS; try clear tm
    intro tm hS
    refine o_skip hS rfl rfl rfl hg4 ?_; clear hS; try clear tm
    intro tm hS
    refine o_skip hS rfl rfl rfl hg4 ?_; clear hS; try clear tm
    intro tm hS
    refine o_skip hS rfl rfl rfl hg4 ?_; clear hS; try clear tm
    intro tm hS
    refine o_pickT hS (.inl rfl) rfl rfl hg4 rfl ?_; clear hS; try clear tm
    intro tm hS
    obtain rfl := Option.some.inj hc4
    exact o_nil (hS.keep (ka_cons rfl (ka_cons rfl (ka_cons rfl (ka_cons rfl (ka_cons rfl ka_nil))))) (fun hI => (hI.sub (sd (sd (sd (sc (sc (sc (sc sn))))))))))
   ·replace hc4 := iteF hg4 hc4
    refine o_ldA (k := 3) hS (.inr ⟨_, _, _, _, rfl, rfl, rfl, hg4⟩) rfl rfl rfl (.inl rfl) Fu25 rfl Fs25 rfl ?_; clear hS; try clear tm
    intro tm hS
    refine o_ldA (k := 0) hS (.inr ⟨_, _, _, _, rfl, rfl, rfl, hg4⟩) rfl rfl rfl (.inl rfl) Fu25 rfl Fs25 rfl ?_; clear hS; try clear tm
    intro tm hS
    obtain ⟨r11, hx11, hc4⟩ := bindS hc4
    refine o_call (Pc := fun _ res H => res = .bool r11 ∧ Kn wm H ([.box b3 [.bool r8.Char, v17, v18], .own (rI .i64) v17 r8.Shape, .own (rI .i64) v18 r8.Data, .box b2 [.bool r3.Char, v10, v11], .own (rI .i64) v10 r3.Shape, .own (rI .i64) v11 r3.Data, .fz (rI .u64) v1 draws1]) Fr) hS (.inr ⟨_, _, _, _, rfl, rfl, rfl, hg4⟩) rfl (fun wm' hw1 hw2 => by
     obtain ⟨F2, k1, k2⟩ := hS.inv.lend (La := [.fz (rI .i64) v10 r3.Shape, .fz (rI .i64) v11 r3.Data, .fz (rI .i64) v17 r8.Shape, .fz (rI .i64) v18 r8.Data]) (List.forall_mem_cons.mpr ⟨(.inr ⟨_, _, _, _, rfl, .inl (List.mem_of_getElem? (i := 4) rfl)⟩), (List.forall_mem_cons.mpr ⟨(.inr ⟨_, _, _, _, rfl, .inl (List.mem_of_getElem? (i := 5) rfl)⟩), (List.forall_mem_cons.mpr ⟨(.inr ⟨_, _, _, _, rfl, .inl (List.mem_of_getElem? (i := 1) rfl)⟩), (List.forall_mem_cons.mpr ⟨(.inr ⟨_, _, _, _, rfl, .inl (List.mem_of_getElem? (i := 2) rfl)⟩), (fun _ h => by cases h)⟩)⟩)⟩)⟩) hw1 hw2
     exact (wk24  r3 r8  v10 v11 v17 v18 k1 hx11).mono fun res H2 ⟨q1, q2⟩ => ⟨q1, k2 _ q2⟩) (fun wm' res H hw' hp => ?_)
    obtain ⟨hres, hI⟩ := hp
    replace hres := hres.symm; subst hres
    replace hS : S wm 152 _ H ((94, .bool r11) :: _) ([.box b3 [.bool r8.Char, v17, v18], .own (rI .i64) v17 r8.Shape, .own (rI .i64) v18 r8.Data, .box b2 [.bool r3.Char, v10, v11], .own (rI .i64) v10 r3.Shape, .own (rI .i64) v11 r3.Data, .fz (rI .u64) v1 draws1]) Fr := (hS.put rfl _).withK hI
    clear hI hw'
    refine o_pure hS (.inr ⟨_, _, _, _, rfl, rfl, rfl, hg4⟩) rfl rfl ?_; clear hS; try clear tm
    intro tm hS
    refine o_pickF hS (.inl rfl) rfl rfl hg4 rfl ?_; clear hS; try clear tm
    intro tm hS
    obtain rfl := Option.some.inj hc4
    exact o_nil (hS.keep (ka_cons rfl (ka_cons rfl (ka_cons rfl (ka_cons rfl (ka_cons rfl ka_nil))))) (fun hI => (hI.sub (sd (sd (sd (sc (sc (sc (sc sn))))))))))
  intro tm H hS
  refine o_nil (hR _ _ ?_)
  clear hR R
  refine c_cond hS rfl (fun hc => ?_) (fun hc => ?_)
  ·replace h0 := iteT hc h0
   refine c_reg fun R hR => ?_
   refine o_pure hS (.inl rfl) rfl rfl ?_; clear hS; try clear tm
   intro tm hS
   refine o_nil (hR _ _ ?_)
   clear hR R
   refine wpC.ret ?_
   obtain rfl := Option.some.inj h0
   refine Exists.intro _ (And.intro (rs_tmp hS rfl rs_nil) ?_)
   have hI := hS.inv
   exact ⟨rfl, (hI.sub sn)⟩
  ·replace h0 := iteF hc h0
   refine wpC.skip ?_
   refine c_reg fun R hR => ?_
   refine o_pure hS (.inl rfl) rfl rfl ?_; clear hS; try clear tm
   intro tm hS
   refine o_pure hS (.inl rfl) rfl rfl ?_; clear hS; try clear tm
   intro tm hS
   obtain ⟨l3, hx12, h0⟩ := bindS h0
   refine o_mk (r := rB) hS (.inl rfl) rfl rfl rfl Fm45 rfl (fun _ => rfl) hx12 ?_; clear hS; try clear tm H
   intro v19 tm H hS
   refine o_pure hS (.inl rfl) rfl rfl ?_; clear hS; try clear tm
   intro tm hS
   refine o_nil (hR _ _ ?_)
   clear hR R
   refine c_seqS ?_
   refine c_reg fun R hR => ?_
   refine o_pure hS (.inl rfl) rfl rfl ?_; clear hS; try clear tm
   intro tm hS
   refine o_nil (hR _ _ ?_)
   clear hR R
   obtain ⟨k2, hw2, h0⟩ := bindS h0
   refine wpC.block ?_
   refine c_loop (I := fun (s : Int × (List Bool)) tm H => match (generalizing := false) s with | (i2, l4) => S wm 152 tm H [(2, v1), (9, .int .i64 (IntKind.i64.wrap (Int.tmod b1 61))), (10, .int .i64 q1), (14, .pointer (some ⟨b2, 0, none⟩)), (20, v19), (21, .int .i64 i2)] [.box b2 [.bool r3.Char, v10, v11], .fz (rI .u64) v1 draws1, .own (rI .i64) v10 r3.Shape, .own (rI .i64) v11 r3.Data, .own rB v19 l4] Fr) hw2 (by change S wm 152 _ _ _ _ Fr; exact hS.keep (ka_cons rfl (ka_cons rfl (ka_cons rfl (ka_cons rfl (ka_cons rfl (ka_cons rfl ka_nil)))))) (fun hI => ((((((hI.pull 0 rfl).pull 3 rfl).pull 3 rfl).pull 4 rfl).pull 4 rfl).take 5))) ?_
   clear hS
   intro s2 tm H c6 hS h6 hq6
   obtain ⟨i2, l4⟩ := s2
   change S wm 152 tm H [(2, v1), (9, .int .i64 (IntKind.i64.wrap (Int.tmod b1 61))), (10, .int .i64 q1), (14, .pointer (some ⟨b2, 0, none⟩)), (20, v19), (21, .int .i64 i2)] [.box b2 [.bool r3.Char, v10, v11], .fz (rI .u64) v1 draws1, .own (rI .i64) v10 r3.Shape, .own (rI .i64) v11 r3.Data, .own rB v19 l4] Fr at hS
   refine c_seqS ?_
   refine c_reg fun R hR => ?_
   refine o_pure hS (.inl rfl) rfl rfl ?_; clear hS; try clear tm
   intro tm hS
   refine o_pure hS (.inl rfl) rfl rfl ?_; clear hS; try clear tm
   intro tm hS
   refine o_pure hS (.inl rfl) rfl rfl ?_; clear hS; try clear tm
   intro tm hS
   refine o_nil (hR _ _ ?_)
   clear hR R
   refine c_cond hS rfl (fun hc => ?_) (fun hc => ?_)
   ·replace h6 := iteT hc h6
    refine wpC.skip ?_
    refine c_seqS ?_
    refine wpC.block ?_
    refine c_reg fun R hR => ?_
    refine o_pure hS (.inl rfl) rfl rfl ?_; clear hS; try clear tm
    intro tm hS
    refine o_ld1 (k := 0) hS (.inl rfl) rfl rfl rfl (.inl rfl) Fu22 rfl rfl ?_; clear hS; try clear tm
    intro tm hS
    refine o_pure hS (.inl rfl) rfl rfl ?_; clear hS; try clear tm
    intro tm hS
    obtain ⟨y2, hx13, h6⟩ := bindS h6
    refine o_ixA (k := 3) (r := (rI .i64)) hS (.inl rfl) rfl rfl rfl rfl (.inr (.inl rfl)) Fu22 Fs2 hx13 ?_; clear hS; try clear tm
    intro tm hS
    refine o_ldF (r := (rI .i64)) (k := 3) hS (.inl rfl) rfl rfl rfl (.inr (.inl rfl)) hx13 Fu2 rfl (flat_I _) rfl ?_; clear hS; try clear tm
    intro tm hS
    refine o_pure hS (.inl rfl) rfl rfl ?_; clear hS; try clear tm
    intro tm hS
    refine o_nil (hR _ _ ?_)
    clear hR R
    refine c_seqS ?_
    refine c_reg fun R hR => ?_
    refine o_pure hS (.inl rfl) rfl rfl ?_; clear hS; try clear tm
    intro tm hS
    refine o_pure hS (.inl rfl) rfl rfl ?_; clear hS; try clear tm
    intro tm hS
    refine o_pure hS (.inl rfl) rfl rfl ?_; clear hS; try clear tm
    intro tm hS
    obtain ⟨c7, hc5⟩ : ∃ x : Bool, x = ((decide (y2 < 1)) || (decide (y2 > (IntKind.i64.wrap (Int.tmod b1 61))))) := ⟨_, rfl⟩
    refine o_cutN 4 (J := fun tm H => S wm 152 tm H [(116, .bool c7), (2, v1), (9, .int .i64 (IntKind.i64.wrap (Int.tmod b1 61))), (10, .int .i64 q1), (14, .pointer (some ⟨b2, 0, none⟩)), (20, v19), (21, .int .i64 i2), (22, .int .i64 y2)] [.box b2 [.bool r3.Char, v10, v11], .fz (rI .u64) v1 draws1, .own (rI .i64) v10 r3.Shape, .own (rI .i64) v11 r3.Data, .own rB v19 l4] Fr) ?_ ?_
    ·rcases Bool.eq_false_or_eq_true (decide (y2 < 1)) with hg5 | hg5
     ·refine o_skip hS rfl rfl rfl hg5 ?_; clear hS; try clear tm
      intro tm hS
      refine o_skip hS rfl rfl rfl hg5 ?_; clear hS; try clear tm
      intro tm hS
      refine o_skip hS rfl rfl rfl hg5 ?_; clear hS; try clear tm
      intro tm hS
      refine o_pickT hS (.inl rfl) rfl rfl hg5 rfl ?_; clear hS; try clear tm
      intro tm hS
      have hc5 : c7 = true := hc5.trans (by rw [hg5]; first | rfl | simp)
      subst hc5
      exact o_nil (hS.keep (ka_cons rfl (ka_cons rfl (ka_cons rfl (ka_cons rfl (ka_cons rfl (ka_cons rfl (ka_cons rfl (ka_cons rfl ka_nil)))))))) (fun hI => (hI.sub (sc (sc (sc (sc (sc sn))))))))
     ·refine o_pure hS (.inr ⟨_, _, _, _, rfl, rfl, rfl, hg5⟩) rfl rfl ?_; clear hS; try clear tm
      intro tm hS
      refine o_pure hS (.inr ⟨_, _, _, _, rfl, rfl, rfl, hg5⟩) rfl rfl ?_; clear hS; try clear tm
      intro tm hS
      refine o_pure hS (.inr ⟨_, _, _, _, rfl, rfl, rfl, hg5⟩) rfl rfl ?_; clear hS; try clear tm
      intro tm hS
      refine o_pickF hS (.inl rfl) rfl rfl hg5 rfl ?_; clear hS; try clear tm
      intro tm hS
      have hc5 : c7 = (decide (y2 > (IntKind.i64.wrap (Int.tmod b1 61)))) := hc5.trans (by rw [hg5]; first | rfl | simp)
      subst hc5
      exact o_nil (hS.keep (ka_cons rfl (ka_cons rfl (ka_cons rfl (ka_cons rfl (ka_cons rfl (ka_cons rfl (ka_cons rfl (ka_cons rfl ka_nil)))))))) (fun hI => (hI.sub (sc (sc (sc (sc (sc sn))))))))
    intro tm H hS
    subst hc5
    refine o_pure hS (.inl rfl) rfl rfl ?_; clear hS; try clear tm
    intro tm hS
    obtain ⟨c8, hc6, h6⟩ := bindS h6
    refine o_cutN 5 (J := fun tm H => S wm 152 tm H [(122, .bool c8), (2, v1), (9, .int .i64 (IntKind.i64.wrap (Int.tmod b1 61))), (10, .int .i64 q1), (14, .pointer (some ⟨b2, 0, none⟩)), (20, v19), (21, .int .i64 i2), (22, .int .i64 y2)] [.box b2 [.bool r3.Char, v10, v11], .fz (rI .u64) v1 draws1, .own (rI .i64) v10 r3.Shape, .own (rI .i64) v11 r3.Data, .own rB v19 l4] Fr) ?_ ?_
    ·rcases Bool.eq_false_or_eq_true ((decide (y2 < 1)) || (decide (y2 > (IntKind.i64.wrap (Int.tmod b1 61))))) with hg6 | hg6
     ·replace hc6 := iteT hg6 hc6
      refine o_skip hS rfl rfl rfl hg6 ?_; clear hS; try clear tm
      intro tm hS
      refine o_skip hS rfl rfl rfl hg6 ?_; clear hS; try clear tm
      intro tm hS
      refine o_skip hS rfl rfl rfl hg6 ?_; clear hS; try clear tm
      intro tm hS
      refine o_skip hS rfl rfl rfl hg6 ?_; clear hS; try clear tm
      intro tm hS
      refine o_pickT hS (.inl rfl) rfl rfl hg6 rfl ?_; clear hS; try clear tm
      intro tm hS
      obtain rfl := Option.some.inj hc6
      exact o_nil (hS.keep (ka_cons rfl (ka_cons rfl (ka_cons rfl (ka_cons rfl (ka_cons rfl (ka_cons rfl (ka_cons rfl (ka_cons rfl ka_nil)))))))) (fun hI => (hI.sub (sc (sc (sc (sc (sc sn))))))))
     ·replace hc6 := iteF hg6 hc6
      refine o_pure hS (.inr ⟨_, _, _, _, rfl, rfl, rfl, hg6⟩) rfl rfl ?_; clear hS; try clear tm
      intro tm hS
      refine o_pure hS (.inr ⟨_, _, _, _, rfl, rfl, rfl, hg6⟩) rfl rfl ?_; clear hS; try clear tm
      intro tm hS
      obtain ⟨y3, hx14, hc6⟩ := bindS hc6
      refine o_ixA (k := 4) (r := rB) hS (.inr ⟨_, _, _, _, rfl, rfl, rfl, hg6⟩) rfl rfl rfl rfl (.inr (.inl rfl)) Fu45 Fs4 hx14 ?_; clear hS; try clear tm
      intro tm hS
      refine o_ldF (r := rB) (k := 4) hS (.inr ⟨_, _, _, _, rfl, rfl, rfl, hg6⟩) rfl rfl rfl (.inr (.inl rfl)) hx14 Fu4 rfl flat_B rfl ?_; clear hS; try clear tm
      intro tm hS
      refine o_pickF hS (.inl rfl) rfl rfl hg6 rfl ?_; clear hS; try clear tm
      intro tm hS
      obtain rfl := Option.some.inj hc6
      exact o_nil (hS.keep (ka_cons rfl (ka_cons rfl (ka_cons rfl (ka_cons rfl (ka_cons rfl (ka_cons rfl (ka_cons rfl (ka_cons rfl ka_nil)))))))) (fun hI => (hI.sub (sc (sc (sc (sc (sc sn))))))))
    intro tm H hS
    refine o_nil (hR _ _ ?_)
    clear hR R
    refine c_cond hS rfl (fun hc => ?_) (fun hc => ?_)
    ·replace h6 := iteT hc h6
     refine c_reg fun R hR => ?_
     refine o_pure hS (.inl rfl) rfl rfl ?_; clear hS; try clear tm
     intro tm hS
     refine o_nil (hR _ _ ?_)
     clear hR R
     refine wpC.ret ?_
     obtain rfl := Option.some.inj h6
     obtain rfl := hq6 _ rfl
     refine And.intro rfl ?_
     obtain rfl := leave h0
     refine Exists.intro _ (And.intro (rs_tmp hS rfl rs_nil) ?_)
     have hI := hS.inv
     exact ⟨rfl, (hI.sub sn)⟩
    ·replace h6 := iteF hc h6
     refine wpC.skip ?_
     refine c_reg1 fun R hR => ?_
     refine o_pure hS (.inl rfl) rfl rfl ?_; clear hS; try clear tm
     intro tm hS
     refine o_pure hS (.inl rfl) rfl rfl ?_; clear hS; try clear tm
     intro tm hS
     obtain ⟨y4, hx15, h6⟩ := bindS h6
     refine o_ixA (k := 4) (r := rB) hS (.inl rfl) rfl rfl rfl rfl (.inr (.inl rfl)) Fu45 Fs4 hx15 ?_; clear hS; try clear tm
     intro tm hS
     obtain ⟨l5, hx16, h6⟩ := bindS h6
     refine o_stE (k := 4) (r := rB) hS (.inl rfl) rfl rfl rfl Fs4 rfl rfl (rd_flat fun _ => rfl) hx16 ?_; clear hS; try clear H
     intro H hS
     refine o_nil (hR _ _ ?_)
     clear hR R
     refine c_reg1 fun R hR => ?_
     refine o_pure hS (.inl rfl) rfl rfl ?_; clear hS; try clear tm
     intro tm hS
     refine o_pure hS (.inl rfl) rfl rfl ?_; clear hS; try clear tm
     intro tm hS
     refine o_pure hS (.inl rfl) rfl rfl ?_; clear hS; try clear tm
     intro tm hS
     refine o_nil (hR _ _ ?_)
     clear hR R
     obtain rfl := Option.some.inj h6
     refine ⟨_, rfl, ?_⟩
     change S wm 152 _ _ _ _ Fr; exact hS.keep (ka_cons rfl (ka_cons rfl (ka_cons rfl (ka_cons rfl (ka_cons rfl (ka_cons rfl ka_nil)))))) (fun hI => (hI.sub (sc (sc (sc (sc (sc sn)))))))
   ·replace h6 := iteF hc h6
    refine wpC.exit ?_
    refine seqX ?_
    obtain rfl := Option.some.inj h6
    obtain rfl := hq6 _ rfl
    refine And.intro rfl (blk_eq ?_)
    replace h0 := joinN h0
    refine c_reg fun R hR => ?_
    refine o_pure hS (.inl rfl) rfl rfl ?_; clear hS; try clear tm
    intro tm hS
    refine o_pure hS (.inl rfl) rfl rfl ?_; clear hS; try clear tm
    intro tm hS
    obtain ⟨r12, hx17, h0⟩ := bindS h0
    refine o_call hS (.inl rfl) rfl (fun wm' hw1 hw2 => wk13  (IntKind.i64.wrap (Int.tdiv q1 2))   (hS.sel hw2) hx17) (fun wm' res H hw' hp => ?_)
    obtain ⟨v20, v21, hres, hI⟩ := hp
    replace hres := hres.symm; subst hres
    replace hS : S wm 152 _ H ((129, .agg #[.bool r12.Char, v20, v21]) :: _) ([.own (rI .i64) v20 r12.Shape, .own (rI .i64) v21 r12.Data] ++ _) Fr := hS.after rfl hw' hI
    clear hI hw'
    refine o_pure hS (.inl rfl) rfl rfl ?_; clear hS; try clear tm
    intro tm hS
    obtain ⟨r13, hx18, h0⟩ := bindS h0
    refine o_call hS (.inl rfl) rfl (fun wm' hw1 hw2 => wk13  (IntKind.i64.wrap (Int.tmod b1 61))   (hS.sel hw2) hx18) (fun wm' res H hw' hp => ?_)
    obtain ⟨v22, v23, hres, hI⟩ := hp
    replace hres := hres.symm; subst hres
    replace hS : S wm 152 _ H ((131, .agg #[.bool r13.Char, v22, v23]) :: _) ([.own (rI .i64) v22 r13.Shape, .own (rI .i64) v23 r13.Data] ++ _) Fr := hS.after rfl hw' hI
    clear hI hw'
    refine o_pure hS (.inl rfl) rfl rfl ?_; clear hS; try clear tm
    intro tm hS
    obtain ⟨⟨r14, r15, r16⟩, hx19, h0⟩ := bindS h0
    refine o_call (Pc := fun _ res H => ∃ v24 v25, res = .tuple #[.agg #[.bool r14.Char, v24, v25], .int .i64 r15, .int .i64 r16] ∧ Kn wm H ([.own (rI .i64) v24 r14.Shape, .own (rI .i64) v25 r14.Data] ++ [.own (rI .i64) v22 r13.Shape, .own (rI .i64) v23 r13.Data, .own (rI .i64) v20 r12.Shape, .own (rI .i64) v21 r12.Data, .box b2 [.bool r3.Char, v10, v11], .fz (rI .u64) v1 draws1, .own (rI .i64) v10 r3.Shape, .own (rI .i64) v11 r3.Data, .own rB v19 l4]) Fr) hS (.inl rfl) rfl (fun wm' hw1 hw2 => by
     obtain ⟨F2, k1, k2⟩ := hS.inv.lendR (La := [.fz (rI .i64) v20 r12.Shape, .fz (rI .i64) v21 r12.Data, .fz (rI .i64) v22 r13.Shape, .fz (rI .i64) v23 r13.Data, .fz (rI .u64) v1 draws1]) (List.forall_mem_cons.mpr ⟨(.inr ⟨_, _, _, _, rfl, .inl (List.mem_of_getElem? (i := 2) rfl)⟩), (List.forall_mem_cons.mpr ⟨(.inr ⟨_, _, _, _, rfl, .inl (List.mem_of_getElem? (i := 3) rfl)⟩), (List.forall_mem_cons.mpr ⟨(.inr ⟨_, _, _, _, rfl, .inl (List.mem_of_getElem? (i := 0) rfl)⟩), (List.forall_mem_cons.mpr ⟨(.inr ⟨_, _, _, _, rfl, .inl (List.mem_of_getElem? (i := 1) rfl)⟩), (List.forall_mem_cons.mpr ⟨(.inl ⟨rfl, List.mem_of_getElem? (i := 5) rfl⟩), (fun _ h => by cases h)⟩)⟩)⟩)⟩)⟩) hw1 hw2
     exact (wk22  r12 r13 draws1 0  v20 v21 v22 v23 v1 k1 hx19).mono fun res H2 ⟨v24, v25, q1, q2⟩ => ⟨v24, v25, q1, k2 _ _ (List.forall_mem_cons.mpr ⟨⟨_, _, _, _, rfl, fun _ _ _ _ h => h⟩, (List.forall_mem_cons.mpr ⟨⟨_, _, _, _, rfl, fun _ _ _ _ h => h⟩, (fun _ h => by cases h)⟩)⟩) q2⟩) (fun wm' res H hw' hp => ?_)
    obtain ⟨v24, v25, hres, hI⟩ := hp
    replace hres := hres.symm; subst hres
    replace hS : S wm 152 _ H ((133, .tuple #[.agg #[.bool r14.Char, v24, v25], .int .i64 r15, .int .i64 r16]) :: _) ([.own (rI .i64) v24 r14.Shape, .own (rI .i64) v25 r14.Data] ++ [.own (rI .i64) v22 r13.Shape, .own (rI .i64) v23 r13.Data, .own (rI .i64) v20 r12.Shape, .own (rI .i64) v21 r12.Data, .box b2 [.bool r3.Char, v10, v11], .fz (rI .u64) v1 draws1, .own (rI .i64) v10 r3.Shape, .own (rI .i64) v11 r3.Data, .own rB v19 l4]) Fr := (hS.put rfl _).withK hI
    clear hI hw'
    refine o_pure hS (.inl rfl) rfl rfl ?_; clear hS; try clear tm
    intro tm hS
    refine o_pure hS (.inl rfl) rfl rfl ?_; clear hS; try clear tm
    intro tm hS
    refine o_pure hS (.inl rfl) rfl rfl ?_; clear hS; try clear tm
    intro tm hS
    refine o_pure hS (.inl rfl) rfl rfl ?_; clear hS; try clear tm
    intro tm hS
    refine o_alloc hS (.inl rfl) rfl Fz25 (by decide) ?_; clear hS; try clear tm H
    intro b4 tm H hS
    refine o_st (k := 0) hS (.inl rfl) rfl rfl rfl Fs25 rfl rfl (all_cons rfl (all_cons (hS.one (k := 1) rfl (.inr (.inl rfl))) (all_cons (hS.one (k := 2) rfl (.inr (.inl rfl))) all_nil))) rfl ?_; clear hS; try clear H
    intro H hS
    refine o_pure hS (.inl rfl) rfl rfl ?_; clear hS; try clear tm
    intro tm hS
    refine o_pure hS (.inl rfl) rfl rfl ?_; clear hS; try clear tm
    intro tm hS
    refine o_nil (hR _ _ ?_)
    clear hR R
    refine c_reg fun R hR => ?_
    refine o_pure hS (.inl rfl) rfl rfl ?_; clear hS; try clear tm
    intro tm hS
    refine o_pure hS (.inl rfl) rfl rfl ?_; clear hS; try clear tm
    intro tm hS
    refine o_pure hS (.inl rfl) rfl rfl ?_; clear hS; try clear tm
    intro tm hS
    replace hS := hS.frz (k := 10) rfl
    obtain ⟨c9, hc7, h0⟩ := bindS h0
    refine o_cutN 9 (J := fun tm H => S wm 152 tm H [(148, .bool c9)] [] Fr) ?_ ?_
    ·rcases Bool.eq_false_or_eq_true (r16 == 0) with hg7 | hg7
     ·replace hc7 := iteT hg7 hc7
      refine o_ldA (k := 0) hS (.inr ⟨_, _, _, _, rfl, rfl, rfl, hg7⟩) rfl rfl rfl (.inl rfl) Fu25 rfl Fs25 rfl ?_; clear hS; try clear tm
      intro tm hS
      refine o_pure hS (.inr ⟨_, _, _, _, rfl, rfl, rfl, hg7⟩) rfl rfl ?_; clear hS; try clear tm
      intro tm hS
      refine o_ld1 (k := 7) hS (.inr ⟨_, _, _, _, rfl, rfl, rfl, hg7⟩) rfl rfl rfl (.inl rfl) Fu22 rfl rfl ?_; clear hS; try clear tm
      intro tm hS
      refine o_pure hS (.inr ⟨_, _, _, _, rfl, rfl, rfl, hg7⟩) rfl rfl ?_; clear hS; try clear tm
      intro tm hS
      refine o_pure hS (.inr ⟨_, _, _, _, rfl, rfl, rfl, hg7⟩) rfl rfl ?_; clear hS; try clear tm
      intro tm hS
      obtain ⟨l6, hx20, hc7⟩ := bindS hc7
      refine o_sl (k := 10) (r := (rI .i64)) hS (.inr ⟨_, _, _, _, rfl, rfl, rfl, hg7⟩) rfl rfl rfl Fu22 Fs2 rfl rfl hx20 ?_; clear hS; try clear tm
      intro v26 tm hS
      obtain ⟨r17, hx21, hc7⟩ := bindS hc7
      refine o_call hS (.inr ⟨_, _, _, _, rfl, rfl, rfl, hg7⟩) rfl (fun wm' hw1 hw2 => wk15  l6  v26 ((hS.sel hw2).ad 0 rfl) hx21) (fun wm' res H hw' hp => ?_)
      obtain ⟨v27, v28, hres, hI⟩ := hp
      replace hres := hres.symm; subst hres
      replace hS : S wm 152 _ H ((146, .agg #[.bool r17.Char, v27, v28]) :: _) ([.own (rI .i64) v27 r17.Shape, .fz (rI .i64) v28 r17.Data] ++ _) Fr := hS.after rfl hw' hI
      clear hI hw'
      obtain ⟨r18, hx22, hc7⟩ := bindS hc7
      refine o_call (Pc := fun _ res H => res = .bool r18 ∧ Kn wm H ([.own (rI .i64) v27 r17.Shape, .fz (rI .i64) v28 r17.Data, .fz (rI .i64) v26 l6, .box b4 [.bool r14.Char, v24, v25], .own (rI .i64) v24 r14.Shape, .own (rI .i64) v25 r14.Data, .own (rI .i64) v22 r13.Shape, .own (rI .i64) v23 r13.Data, .own (rI .i64) v20 r12.Shape, .own (rI .i64) v21 r12.Data, .box b2 [.bool r3.Char, v10, v11], .fz (rI .u64) v1 draws1, .own (rI .i64) v10 r3.Shape, .fz (rI .i64) v11 r3.Data, .own rB v19 l4]) Fr) hS (.inr ⟨_, _, _, _, rfl, rfl, rfl, hg7⟩) rfl (fun wm' hw1 hw2 => by
       obtain ⟨F2, k1, k2⟩ := hS.inv.lend (La := [.fz (rI .i64) v24 r14.Shape, .fz (rI .i64) v25 r14.Data, .fz (rI .i64) v27 r17.Shape, .fz (rI .i64) v28 r17.Data]) (List.forall_mem_cons.mpr ⟨(.inr ⟨_, _, _, _, rfl, .inl (List.mem_of_getElem? (i := 4) rfl)⟩), (List.forall_mem_cons.mpr ⟨(.inr ⟨_, _, _, _, rfl, .inl (List.mem_of_getElem? (i := 5) rfl)⟩), (List.forall_mem_cons.mpr ⟨(.inr ⟨_, _, _, _, rfl, .inl (List.mem_of_getElem? (i := 0) rfl)⟩), (List.forall_mem_cons.mpr ⟨(.inl ⟨rfl, List.mem_of_getElem? (i := 1) rfl⟩), (fun _ h => by cases h)⟩)⟩)⟩)⟩) hw1 hw2
       exact (wk24  r14 r17  v24 v25 v27 v28 k1 hx22).mono fun res H2 ⟨q1, q2⟩ => ⟨q1, k2 _ q2⟩) (fun wm' res H hw' hp => ?_)
      obtain ⟨hres, hI⟩ := hp
      replace hres := hres.symm; subst hres
      replace hS : S wm 152 _ H ((147, .bool r18) :: _) ([.own (rI .i64) v27 r17.Shape, .fz (rI .i64) v28 r17.Data, .fz (rI .i64) v26 l6, .box b4 [.bool r14.Char, v24, v25], .own (rI .i64) v24 r14.Shape, .own (rI .i64) v25 r14.Data, .own (rI .i64) v22 r13.Shape, .own (rI .i64) v23 r13.Data, .own (rI .i64) v20 r12.Shape, .own (rI .i64) v21 r12.Data, .box b2 [.bool r3.Char, v10, v11], .fz (rI .u64) v1 draws1, .own (rI .i64) v10 r3.Shape, .fz (rI .i64) v11 r3.Data, .own rB v19 l4]) Fr := (hS.put rfl _).withK hI
      clear hI hw'
      refine o_pickT hS (.inl rfl) rfl rfl hg7 rfl ?_; clear hS; try clear tm
      intro tm hS
      obtain rfl := Option.some.inj hc7
      exact o_nil (hS.keep (ka_cons rfl ka_nil) (fun hI => (hI.sub sn)))
     ·replace hc7 := iteF hg7 hc7
      refine o_skip hS rfl rfl rfl hg7 ?_; clear hS; try clear tm
      intro tm hS
      refine o_skip hS rfl rfl rfl hg7 ?_; clear hS; try clear tm
      intro tm hS
      refine o_skip hS rfl rfl rfl hg7 ?_; clear hS; try clear tm
      intro tm hS
      refine o_skip hS rfl rfl rfl hg7 ?_; clear hS; try clear tm
      intro tm hS
      refine o_skip hS rfl rfl rfl hg7 ?_; clear hS; try clear tm
      intro tm hS
      refine o_skip hS rfl rfl rfl hg7 ?_; clear hS; try clear tm
      intro tm hS
      refine o_skip hS rfl rfl rfl hg7 ?_; clear hS; try clear tm
      intro tm hS
      refine o_skip hS rfl rfl rfl hg7 ?_; clear hS; try clear tm
      intro tm hS
      refine o_pickF hS (.inl rfl) rfl rfl hg7 rfl ?_; clear hS; try clear tm
      intro tm hS
      obtain rfl := Option.some.inj hc7
      exact o_nil (hS.keep (ka_cons rfl ka_nil) (fun hI => (hI.sub sn)))
    intro tm H hS
    refine o_pure hS (.inl rfl) rfl rfl ?_; clear hS; try clear tm
    intro tm hS
    obtain ⟨c10, hc8⟩ : ∃ x : Bool, x = (c9 && true) := ⟨_, rfl⟩
    refine o_cutN 2 (J := fun tm H => S wm 152 tm H [(151, .bool c10)] [] Fr) ?_ ?_
    ·rcases Bool.eq_false_or_eq_true c9 with hg8 | hg8
     ·refine o_call hS (.inr ⟨_, _, _, _, rfl, rfl, rfl, hg8⟩) rfl (fun wm' hw1 hw2 => wpF.told ho19 (Q := fun v H' => v = .bool true ∧ H' = H) ⟨rfl, rfl⟩) (fun wm' res H hw' hp => ?_)
      obtain ⟨rfl, rfl⟩ := hp
      replace hS := hS.put (d := 150) rfl (.bool true)
      clear hw'
      refine o_pickT hS (.inl rfl) rfl rfl hg8 rfl ?_; clear hS; try clear tm
      intro tm hS
      have hc8 : c10 = true := hc8.trans (by rw [hg8]; first | rfl | simp)
      subst hc8
      exact o_nil (hS.keep (ka_cons rfl ka_nil) (fun hI => (hI.sub sn)))
     ·refine o_skip hS rfl rfl rfl hg8 ?_; clear hS; try clear tm
      intro tm hS
      refine o_pickF hS (.inl rfl) rfl rfl hg8 rfl ?_; clear hS; try clear tm
      intro tm hS
      have hc8 : c10 = false := hc8.trans (by rw [hg8]; first | rfl | simp)
      subst hc8
      exact o_nil (hS.keep (ka_cons rfl ka_nil) (fun hI => (hI.sub sn)))
    intro tm H hS
    subst hc8
    refine o_pure hS (.inl rfl) rfl rfl ?_; clear hS; try clear tm
    intro tm hS
    refine o_nil (hR _ _ ?_)
    clear hR R
    refine wpC.ret ?_
    obtain rfl := Option.some.inj h0
    refine Exists.intro _ (And.intro (rs_tmp hS rfl rs_nil) ?_)
    have hI := hS.inv
    exact ⟨rfl, (hI.sub sn)⟩
end Go.Proofs.Ytpkfklfakegbjaa.randDeals
