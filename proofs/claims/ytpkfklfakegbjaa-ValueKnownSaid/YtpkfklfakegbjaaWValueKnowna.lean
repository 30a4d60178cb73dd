/- ValueKnown: walks of the code: the run of each function comes to what its plain function says. -/
import Derived.Test.YtpkfklfakegbjaaMValueKnown
import Derived.Test.YtpkfklfakegbjaaProg
set_option maxHeartbeats 4000000
set_option linter.unusedVariables false
set_option linter.unusedSimpArgs false
set_option maxRecDepth 100000
open Go Go.Am Go.Proofs
namespace Go.Proofs.Ytpkfklfakegbjaa.valueKnown
variable {ora : FuncId → Bool}
theorem Fz25 : zeroOf Try.prog 25 = some ((zeroOf Try.prog 25).getD undef) ∧ constOk ((zeroOf Try.prog 25).getD undef) = true ∧ ((zeroOf Try.prog 25).getD undef).cells.toList = [.bool false, (.slice none 0 0), (.slice none 0 0)] := ⟨by kernel_rfl, by kernel_rfl, by kernel_rfl⟩
theorem Fb25 : BuildOk Try.prog 25 [(0, 1), (1, 1), (2, 1)] [.bool false, (.slice none 0 0), (.slice none 0 0)] (match Try.prog.underlying 25 with | some (.struct f) => f | _ => #[]) ((zeroOf Try.prog 25).getD undef) := ⟨by kernel_rfl, by kernel_rfl, by kernel_rfl, by kernel_rfl, by kernel_rfl⟩
theorem Fs25 : sizeOf' Try.prog 25 = some 3 := by kernel_rfl
theorem Fu9 : Try.prog.underlying 9 = some .string := by kernel_rfl
theorem Fu22 : Try.prog.underlying 22 = some (.slice 2) := by kernel_rfl
theorem Fl22 : LitOk Try.prog 22 1 2 ((zeroOf Try.prog 2).getD undef) := ⟨by kernel_rfl, by kernel_rfl, by kernel_rfl, by kernel_rfl, by kernel_rfl, by decide⟩
theorem Fe22_22 : ElemOk Try.prog 22 22 1 8 2 2 ((Try.prog.info? 2).getD default) (((Try.prog.info? 2).getD default).zero.getD undef) := ⟨by kernel_rfl, by kernel_rfl, by kernel_rfl, by kernel_rfl, by kernel_rfl, by kernel_rfl, by kernel_rfl, by decide, by kernel_rfl, by decide⟩
theorem Fs22 : sizeOf' Try.prog 22 = some 1 := by kernel_rfl
theorem Fl23 : LitOk Try.prog 23 1 3 ((zeroOf Try.prog 3).getD undef) := ⟨by kernel_rfl, by kernel_rfl, by kernel_rfl, by kernel_rfl, by kernel_rfl, by decide⟩
theorem Fs23 : sizeOf' Try.prog 23 = some 1 := by kernel_rfl
theorem Fu25 : Try.prog.underlying 25 = some ((Try.prog.underlying 25).getD .bool) := by kernel_rfl
theorem Fs2 : sizeOf' Try.prog 2 = some 1 := by kernel_rfl
theorem Fu4 : Try.prog.underlying 4 = some .bool := by kernel_rfl
theorem Fu2 : Try.prog.underlying 2 = some (.int .i64) := by kernel_rfl
theorem Fm54 : MkOk Try.prog 54 1 5 ((Try.prog.info? 5).getD default) (((Try.prog.info? 5).getD default).zero.getD undef) (.int .u8 0) := ⟨by kernel_rfl, by kernel_rfl, by kernel_rfl, by kernel_rfl, by kernel_rfl, by kernel_rfl, by kernel_rfl⟩
theorem Fu54 : Try.prog.underlying 54 = some (.slice 5) := by kernel_rfl
theorem Fu5 : Try.prog.underlying 5 = some (.int .u8) := by kernel_rfl
theorem Fm22 : MkOk Try.prog 22 8 2 ((Try.prog.info? 2).getD default) (((Try.prog.info? 2).getD default).zero.getD undef) (.int .i64 0) := ⟨by kernel_rfl, by kernel_rfl, by kernel_rfl, by kernel_rfl, by kernel_rfl, by kernel_rfl, by kernel_rfl⟩
theorem Fu23 : Try.prog.underlying 23 = some (.slice 3) := by kernel_rfl
theorem Fs3 : sizeOf' Try.prog 3 = some 1 := by kernel_rfl
theorem Fu3 : Try.prog.underlying 3 = some (.int .i64) := by kernel_rfl
theorem wk26 {wm : Nat} {H : AHeap} {Fr : List Ent}  (s1 : ByteArray)   (hI : Kn wm H [] Fr) {r : Val} (h0 : M.value_Text s1 = some r) :
  wpF Try.prog ora wm 26 [.string s1] H (fun res H => ∃ v6 v7, res = .agg #[.bool r.Char, v6, v7] ∧ Kn wm H [.own (rI .i64) v6 r.Shape, .own (rI .i64) v7 r.Data] Fr) := by
 unfold M.value_Text at h0
 refine f_enter (n := 29) Try.func26 rfl (by simp) hI rfl rfl rfl fun tm hS => ?_
 clear hI
 refine c_reg fun R hR => ?_
 refine o_alloc hS (.inl rfl) rfl Fz25 (by decide) ?_; clear hS; try clear tm H
 intro b1 tm H hS
 refine o_nil (hR _ _ ?_)
 clear hR R
 refine c_reg fun R hR => ?_
 refine o_build hS (.inl rfl) rfl Fb25 rfl (.cons rfl .nil) rfl ?_; clear hS; try clear tm
 intro tm hS
 refine o_alloc hS (.inl rfl) rfl Fz25 (by decide) ?_; clear hS; try clear tm H
 intro b2 tm H hS
 refine o_st (k := 0) hS (.inl rfl) rfl rfl rfl Fs25 rfl rfl (all_cons rfl (all_cons rfl (all_cons rfl all_nil))) rfl ?_; clear hS; try clear H
 intro H hS
 refine o_nil (hR _ _ ?_)
 clear hR R
 obtain ⟨Data1, h2, h0⟩ := bindS h0
 refine c_seqJ (J := fun tm H => (match (generalizing := false) Data1 with | Data1 => ∃ v1, S wm 29 tm H [(2, .pointer (some ⟨b1, 0, none⟩)), (3, .pointer (some ⟨b2, 0, none⟩))] [.box b1 [.bool false, (.slice none 0 0), (.slice none 0 0)], .box b2 [.bool true, (.slice none 0 0), v1], .own (rI .i64) v1 Data1] Fr)) ?_ ?_
 ·refine c_reg fun R hR => ?_
  refine o_pure hS (.inl rfl) rfl rfl ?_; clear hS; try clear tm
  intro tm hS
  refine o_range hS (.inl rfl) rfl rfl Fu9 ?_; clear hS; try clear tm H
  intro b3 tm H hS
  refine o_nil (hR _ _ ?_)
  clear hR R
  obtain ⟨k1, hw1, h2⟩ := bindS h2
  refine wpC.block ?_
  replace hS := hS.nilOwn (rI .i64)
  refine c_loop (I := fun (s : (List Int) × Nat) tm H => match (generalizing := false) s with | (Data2, pos1) => ∃ v2, S wm 29 tm H [(2, .pointer (some ⟨b1, 0, none⟩)), (3, .pointer (some ⟨b2, 0, none⟩)), (8, .pointer (some ⟨b3, 0, none⟩))] [.box b1 [.bool false, (.slice none 0 0), (.slice none 0 0)], .box b2 [.bool true, (.slice none 0 0), v2], .raw b3 (.iter s1 pos1), .own (rI .i64) v2 Data2] Fr) hw1 (by refine Exists.intro (.slice none 0 0) ?_; change S wm 29 _ _ _ _ Fr; exact hS.keep (ka_cons rfl (ka_cons rfl (ka_cons rfl ka_nil))) (fun hI => (((((hI.pull 0 rfl).pull 1 rfl).pull 2 rfl).pull 3 rfl).take 4))) ?_
  clear hS
  intro s2 tm H c1 hS h3 hq3
  obtain ⟨Data2, pos1⟩ := s2
  obtain ⟨v2, hS⟩ := hS
  change S wm 29 tm H [(2, .pointer (some ⟨b1, 0, none⟩)), (3, .pointer (some ⟨b2, 0, none⟩)), (8, .pointer (some ⟨b3, 0, none⟩))] [.box b1 [.bool false, (.slice none 0 0), (.slice none 0 0)], .box b2 [.bool true, (.slice none 0 0), v2], .raw b3 (.iter s1 pos1), .own (rI .i64) v2 Data2] Fr at hS
  refine c_reg fun R hR => ?_
  refine o_next (k := 2) hS (.inl rfl) rfl rfl rfl ?_; clear hS; try clear tm H
  intro tm H hS
  refine o_nextB hS (.inl rfl) rfl rfl ?_; clear hS; try clear tm
  intro tm hS
  refine o_nil (hR _ _ ?_)
  clear hR R
  refine c_seqS ?_
  refine c_cond hS rfl (fun hc => ?_) (fun hc => ?_)
  ·replace h3 := iteT hc h3
   rw [nextV_true hc] at hS
   refine wpC.skip ?_
   refine wpC.block ?_
   refine c_reg fun R hR => ?_
   refine o_pure hS (.inl rfl) rfl rfl ?_; clear hS; try clear tm
   intro tm hS
   refine o_pure hS (.inl rfl) rfl rfl ?_; clear hS; try clear tm
   intro tm hS
   refine o_nil (hR _ _ ?_)
   clear hR R
   refine c_seqS ?_
   refine c_reg fun R hR => ?_
   refine o_pure hS (.inl rfl) rfl rfl ?_; clear hS; try clear tm
   intro tm hS
   refine o_ld1 (k := 1) hS (.inl rfl) rfl rfl rfl (.inl rfl) Fu22 rfl rfl ?_; clear hS; try clear tm
   intro tm hS
   refine o_len (k := 3) (r := (rI .i64)) hS (.inl rfl) rfl rfl rfl (.inr (.inl rfl)) Fu22 rfl ?_; clear hS; try clear tm
   intro tm hS
   refine o_pure hS (.inl rfl) rfl rfl ?_; clear hS; try clear tm
   intro tm hS
   refine o_nil (hR _ _ ?_)
   clear hR R
   refine c_cond hS rfl (fun hc => ?_) (fun hc => ?_)
   ·replace h3 := iteT hc h3
    refine wpC.exit ?_
    refine seqX ?_
    refine blk_ne (id := 1) (i := 0) (by decide) ?_
    obtain rfl := Option.some.inj h3
    obtain rfl := hq3 _ rfl
    refine And.intro rfl (blk_eq ?_)
    replace h2 := joinN h2
    obtain rfl := Option.some.inj h2
    refine Exists.intro v2 ?_; change S wm 29 _ _ _ _ Fr; exact hS.keep (ka_cons rfl (ka_cons rfl ka_nil)) (fun hI => (hI.sub (sc (sc (sd (sc sn))))))
   ·replace h3 := iteF hc h3
    refine wpC.skip ?_
    refine c_reg1 fun R hR => ?_
    refine o_pure hS (.inl rfl) rfl rfl ?_; clear hS; try clear tm
    intro tm hS
    refine o_ld1 (k := 1) hS (.inl rfl) rfl rfl rfl (.inl rfl) Fu22 rfl rfl ?_; clear hS; try clear tm
    intro tm hS
    refine o_pure hS (.inl rfl) rfl rfl ?_; clear hS; try clear tm
    intro tm hS
    refine o_pure hS (.inl rfl) rfl rfl ?_; clear hS; try clear tm
    intro tm hS
    refine o_lit (r := (rI .i64)) (l := [(IntKind.i64.wrap (runeAt s1 pos1))]) hS (.inl rfl) rfl Fl22 rfl rfl rfl (.cons rfl .nil) rfl rfl (ri_1 (rd_flat fun _ => rfl) ri_nil) rfl ?_; clear hS; try clear tm H
    intro v3 tm H hS
    obtain ⟨l1, hx1, h3⟩ := bindS h3
    refine o_app (k1 := 4) (k2 := 0) (r := (rI .i64)) hS (.inl rfl) rfl rfl rfl rfl rfl (.inr (.inr rfl)) rfl Fe22_22 rfl hx1 ?_; clear hS; try clear tm H
    intro v4 tm H hS
    refine o_pure hS (.inl rfl) rfl rfl ?_; clear hS; try clear tm
    intro tm hS
    refine o_st (k := 2) hS (.inl rfl) rfl rfl rfl Fs22 (cells_one (hS.one (k := 4) rfl (.inr (.inl rfl)))) rfl (all_cons (hS.one (k := 4) rfl (.inr (.inl rfl))) all_nil) rfl ?_; clear hS; try clear H
    intro H hS
    refine o_nil (hR _ _ ?_)
    clear hR R
    obtain rfl := Option.some.inj h3
    refine ⟨_, rfl, ?_⟩
    refine Exists.intro v4 ?_; change S wm 29 _ _ _ _ Fr; exact hS.keep (ka_cons rfl (ka_cons rfl (ka_cons rfl ka_nil))) (fun hI => (hI.sub (sd (sc (sc (sc (sc sn)))))))
  ·replace h3 := iteF hc h3
   refine wpC.exit ?_
   refine seqX ?_
   obtain rfl := Option.some.inj h3
   obtain rfl := hq3 _ rfl
   refine And.intro rfl (blk_eq ?_)
   replace h2 := joinN h2
   obtain rfl := Option.some.inj h2
   refine Exists.intro v2 ?_; change S wm 29 _ _ _ _ Fr; exact hS.keep (ka_cons rfl (ka_cons rfl ka_nil)) (fun hI => (hI.sub (sc (sc (sd (sc sn))))))
 intro tm H hS
 obtain ⟨v1, hS⟩ := hS
 change S wm 29 tm H [(2, .pointer (some ⟨b1, 0, none⟩)), (3, .pointer (some ⟨b2, 0, none⟩))] [.box b1 [.bool false, (.slice none 0 0), (.slice none 0 0)], .box b2 [.bool true, (.slice none 0 0), v1], .own (rI .i64) v1 Data1] Fr at hS
 refine c_reg fun R hR => ?_
 refine o_pure hS (.inl rfl) rfl rfl ?_; clear hS; try clear tm
 intro tm hS
 refine o_ld1 (k := 1) hS (.inl rfl) rfl rfl rfl (.inl rfl) Fu22 rfl rfl ?_; clear hS; try clear tm
 intro tm hS
 refine o_len (k := 2) (r := (rI .i64)) hS (.inl rfl) rfl rfl rfl (.inr (.inl rfl)) Fu22 rfl ?_; clear hS; try clear tm
 intro tm hS
 refine o_lit (r := (rI .i64)) (l := [(Data1.length : Int)]) hS (.inl rfl) rfl Fl23 rfl rfl rfl (.cons rfl .nil) rfl rfl (ri_1 (rd_flat fun _ => rfl) ri_nil) rfl ?_; clear hS; try clear tm H
 intro v5 tm H hS
 refine o_pure hS (.inl rfl) rfl rfl ?_; clear hS; try clear tm
 intro tm hS
 refine o_st (k := 2) hS (.inl rfl) rfl rfl rfl Fs23 (cells_one (hS.one (k := 0) rfl (.inr (.inr rfl)))) rfl (all_cons (hS.one (k := 0) rfl (.inr (.inr rfl))) all_nil) rfl ?_; clear hS; try clear H
 intro H hS
 refine o_nil (hR _ _ ?_)
 clear hR R
 refine c_reg fun R hR => ?_
 refine o_ldA (k := 2) hS (.inl rfl) rfl rfl rfl (.inl rfl) Fu25 rfl Fs25 rfl ?_; clear hS; try clear tm
 intro tm hS
 refine o_st (k := 1) hS (.inl rfl) rfl rfl rfl Fs25 rfl rfl (all_cons rfl (all_cons (hS.one (k := 0) rfl (.inr (.inr rfl))) (all_cons (hS.one (k := 3) rfl (.inr (.inl rfl))) all_nil))) rfl ?_; clear hS; try clear H
 intro H hS
 refine o_nil (hR _ _ ?_)
 clear hR R
 refine wpC.ret ?_
 obtain rfl := Option.some.inj h0
 replace hS := hS.litOwn (k := 0) rfl
 refine Exists.intro _ (And.intro (rs_cellA (k := 1) hS rfl rfl (.inl rfl) Fu25 rfl Fs25 rfl rs_nil) ?_)
 have hI := hS.inv
 exact ⟨v5, v1, rfl, (hI.sub (sc (sd (sd (sc sn)))))⟩
theorem wk51 {wm : Nat} {H : AHeap} {Fr : List Ent} (s1 : (List Int)) (v1 : Value) (hI : Kn wm H [.fz (rI .i64) v1 s1] Fr) {r : (List Int)} (h0 : M.slices_Clone__int64 s1 = some r) :
  wpF Try.prog ora wm 51 [v1] H (fun res H => ∃ v2, res = v2 ∧ Kn wm H [.own (rI .i64) v2 r] Fr) := by
 unfold M.slices_Clone__int64 at h0
 refine f_enter (n := 8) Try.func51 rfl (by simp) hI rfl rfl rfl fun tm hS => ?_
 refine c_reg fun R hR => ?_
 refine o_pure hS (.inl rfl) rfl rfl fun tm hS => ?_
 refine o_nil (hR _ _ ?_)
 refine c_seqS ?_
 refine c_reg fun R hR => ?_
 refine o_pure hS (.inl rfl) rfl rfl fun tm hS => ?_
 refine o_nilcmp (k := 0) (r := (rI .i64)) hS (.inl rfl) rfl rfl rfl rfl (.inl rfl) Fu22 (fun hl tm hS => ?_) (fun tm hS => ?_)
 ·subst hl
  have hr : r = [] := by simpa [app] using h0.symm
  subst hr
  refine o_nil (hR _ _ ?_)
  refine c_cond hS rfl (fun _ => ?_) (fun h => by cases h)
  refine c_reg fun R hR => ?_
  refine o_pure hS (.inl rfl) rfl rfl fun tm hS => ?_
  refine o_nil (hR _ _ ?_)
  refine wpC.ret ?_
  replace hS := hS.nilOwn (rI .i64)
  refine Exists.intro _ (And.intro (rs_tmp hS rfl rs_nil) ?_)
  exact ⟨_, rfl, hS.inv.take 1⟩
 ·refine o_nil (hR _ _ ?_)
  refine c_cond hS rfl (fun h => by cases h) (fun _ => ?_)
  refine wpC.skip ?_
  refine c_reg fun R hR => ?_
  refine o_lit (r := (rI .i64)) (l := []) hS (.inl rfl) rfl Fl22 rfl rfl rfl .nil rfl rfl ri_nil rfl fun v2 tm H hS => ?_
  refine o_pure hS (.inl rfl) rfl rfl fun tm hS => ?_
  refine o_appL (k1 := 0) (k2 := 1) (r := (rI .i64)) hS (.inl rfl) rfl rfl rfl rfl rfl (.inl rfl) rfl Fe22_22 h0 fun v3 tm H hS => ?_
  refine o_pure hS (.inl rfl) rfl rfl fun tm hS => ?_
  refine o_nil (hR _ _ ?_)
  refine wpC.ret ?_
  refine Exists.intro _ (And.intro (rs_tmp hS rfl rs_nil) ?_)
  exact ⟨_, rfl, hS.inv.take 1⟩
theorem wk36 {wm : Nat} {H : AHeap} {Fr : List Ent}  (l1 : (List Int))  (v1 : Value) (hI : Kn wm H [.fz (rI .i64) v1 l1] Fr) {r : Val} (h0 : M.value_Vector l1 = some r) :
  wpF Try.prog ora wm 36 [v1] H (fun res H => ∃ v5 v6, res = .agg #[.bool r.Char, v5, v6] ∧ Kn wm H [.own (rI .i64) v5 r.Shape, .own (rI .i64) v6 r.Data] Fr) := by
 unfold M.value_Vector at h0
 refine f_enter (n := 14) Try.func36 rfl (by simp) hI rfl rfl rfl fun tm hS => ?_
 clear hI
 refine c_reg fun R hR => ?_
 refine o_alloc hS (.inl rfl) rfl Fz25 (by decide) ?_; clear hS; try clear tm H
 intro b1 tm H hS
 refine o_nil (hR _ _ ?_)
 clear hR R
 refine c_reg fun R hR => ?_
 refine o_pure hS (.inl rfl) rfl rfl ?_; clear hS; try clear tm
 intro tm hS
 refine o_pure hS (.inl rfl) rfl rfl ?_; clear hS; try clear tm
 intro tm hS
 refine o_len (k := 1) (r := (rI .i64)) hS (.inl rfl) rfl rfl rfl (.inl rfl) Fu22 rfl ?_; clear hS; try clear tm
 intro tm hS
 refine o_pure hS (.inl rfl) rfl rfl ?_; clear hS; try clear tm
 intro tm hS
 obtain ⟨l2, hx1, h0⟩ := bindS h0
 refine o_sl (k := 1) (r := (rI .i64)) hS (.inl rfl) rfl rfl rfl Fu22 Fs2 rfl rfl hx1 ?_; clear hS; try clear tm
 intro v2 tm hS
 obtain ⟨r1, hx2, h0⟩ := bindS h0
 refine o_call hS (.inl rfl) rfl (fun wm' hw1 hw2 => wk51  l2  v2 ((hS.sel hw2).ad 0 rfl) hx2) (fun wm' res H hw' hp => ?_)
 obtain ⟨v3, hres, hI⟩ := hp
 replace hres := hres.symm; subst hres
 replace hS : S wm 14 _ H ((8, v3) :: _) ([.own (rI .i64) v3 r1] ++ _) Fr := hS.after rfl hw' hI
 clear hI hw'
 refine o_pure hS (.inl rfl) rfl rfl ?_; clear hS; try clear tm
 intro tm hS
 refine o_nil (hR _ _ ?_)
 clear hR R
 refine c_reg fun R hR => ?_
 refine o_pure hS (.inl rfl) rfl rfl ?_; clear hS; try clear tm
 intro tm hS
 refine o_len (k := 0) (r := (rI .i64)) hS (.inl rfl) rfl rfl rfl (.inr (.inl rfl)) Fu22 rfl ?_; clear hS; try clear tm
 intro tm hS
 refine o_lit (r := (rI .i64)) (l := [(r1.length : Int)]) hS (.inl rfl) rfl Fl23 rfl rfl rfl (.cons rfl .nil) rfl rfl (ri_1 (rd_flat fun _ => rfl) ri_nil) rfl ?_; clear hS; try clear tm H
 intro v4 tm H hS
 refine o_pure hS (.inl rfl) rfl rfl ?_; clear hS; try clear tm
 intro tm hS
 refine o_build hS (.inl rfl) rfl Fb25 rfl (.cons (cells_one (hS.one (k := 0) rfl (.inr (.inr rfl)))) (.cons (cells_one (hS.one (k := 1) rfl (.inr (.inl rfl)))) .nil)) rfl ?_; clear hS; try clear tm
 intro tm hS
 refine o_st (k := 3) hS (.inl rfl) rfl rfl rfl Fs25 rfl rfl (all_cons rfl (all_cons (hS.one (k := 0) rfl (.inr (.inr rfl))) (all_cons (hS.one (k := 1) rfl (.inr (.inl rfl))) all_nil))) rfl ?_; clear hS; try clear H
 intro H hS
 refine o_nil (hR _ _ ?_)
 clear hR R
 refine wpC.ret ?_
 obtain rfl := Option.some.inj h0
 replace hS := hS.litOwn (k := 0) rfl
 refine Exists.intro _ (And.intro (rs_cellA (k := 3) hS rfl rfl (.inl rfl) Fu25 rfl Fs25 rfl rs_nil) ?_)
 have hI := hS.inv
 exact ⟨v4, v3, rfl, (hI.sub (sc (sc sn)))⟩
theorem wk33 {wm : Nat} {H : AHeap} {Fr : List Ent}  (v1 : Val)  (v2 : Value) (v3 : Value) (hI : Kn wm H [.fz (rI .i64) v2 v1.Shape, .fz (rI .i64) v3 v1.Data] Fr) {r : Int × Bool} (h0 : M.value_One v1 = some r) :
  wpF Try.prog ora wm 33 [.agg #[.bool v1.Char, v2, v3]] H (fun res H => res = .tuple #[.int .i64 r.1, .bool r.2] ∧ Kn wm H [] Fr) := by
 unfold M.value_One at h0
 refine f_enter (n := 16) Try.func33 rfl (by simp) hI rfl rfl rfl fun tm hS => ?_
 clear hI
 refine c_reg fun R hR => ?_
 refine o_box hS (.inl rfl) rfl rfl rfl (all_cons rfl (all_cons (hS.one (k := 0) rfl (.inl rfl)) (all_cons (hS.one (k := 1) rfl (.inl rfl)) all_nil))) ?_; clear hS; try clear tm H
 intro b1 tm H hS
 refine o_pure hS (.inl rfl) rfl rfl ?_; clear hS; try clear tm
 intro tm hS
 refine o_pure hS (.inl rfl) rfl rfl ?_; clear hS; try clear tm
 intro tm hS
 refine o_nil (hR _ _ ?_)
 clear hR R
 refine c_seqS ?_
 refine c_reg fun R hR => ?_
 refine o_pure hS (.inl rfl) rfl rfl ?_; clear hS; try clear tm
 intro tm hS
 refine o_ld1 (k := 0) hS (.inl rfl) rfl rfl rfl (.inl rfl) Fu4 rfl rfl ?_; clear hS; try clear tm
 intro tm hS
 refine o_pure hS (.inl rfl) rfl rfl ?_; clear hS; try clear tm
 intro tm hS
 obtain ⟨c1, hc1⟩ : ∃ x : Bool, x = (v1.Char || ((v1.Data.length : Int) != 1)) := ⟨_, rfl⟩
 refine o_cutN 5 (J := fun tm H => S wm 16 tm H [(11, .bool c1), (1, .pointer (some ⟨b1, 0, none⟩))] [.box b1 [.bool v1.Char, v2, v3], .fz (rI .i64) v2 v1.Shape, .fz (rI .i64) v3 v1.Data] Fr) ?_ ?_
 ·rcases Bool.eq_false_or_eq_true v1.Char with hg1 | hg1
  ·refine o_skip hS rfl rfl rfl hg1 ?_; clear hS; try clear tm
   intro tm hS
   refine o_skip hS rfl rfl rfl hg1 ?_; clear hS; try clear tm
   intro tm hS
   refine o_skip hS rfl rfl rfl hg1 ?_; clear hS; try clear tm
   intro tm hS
   refine o_skip hS rfl rfl rfl hg1 ?_; clear hS; try clear tm
   intro tm hS
   refine o_pickT hS (.inl rfl) rfl rfl hg1 rfl ?_; clear hS; try clear tm
   intro tm hS
   have hc1 : c1 = true := hc1.trans (by rw [hg1]; first | rfl | simp)
   subst hc1
   exact o_nil (hS.keep (ka_cons rfl (ka_cons rfl ka_nil)) (fun hI => (hI.sub (sc (sc (sc sn))))))
  ·refine o_pure hS (.inr ⟨_, _, _, _, rfl, rfl, rfl, hg1⟩) rfl rfl ?_; clear hS; try clear tm
   intro tm hS
   refine o_ld1 (k := 0) hS (.inr ⟨_, _, _, _, rfl, rfl, rfl, hg1⟩) rfl rfl rfl (.inl rfl) Fu22 rfl rfl ?_; clear hS; try clear tm
   intro tm hS
   refine o_len (k := 2) (r := (rI .i64)) hS (.inr ⟨_, _, _, _, rfl, rfl, rfl, hg1⟩) rfl rfl rfl (.inl rfl) Fu22 rfl ?_; clear hS; try clear tm
   intro tm hS
   refine o_pure hS (.inr ⟨_, _, _, _, rfl, rfl, rfl, hg1⟩) rfl rfl ?_; clear hS; try clear tm
   intro tm hS
   refine o_pickF hS (.inl rfl) rfl rfl hg1 rfl ?_; clear hS; try clear tm
   intro tm hS
   have hc1 : c1 = ((v1.Data.length : Int) != 1) := hc1.trans (by rw [hg1]; first | rfl | simp)
   subst hc1
   exact o_nil (hS.keep (ka_cons rfl (ka_cons rfl ka_nil)) (fun hI => (hI.sub (sc (sc (sc sn))))))
 intro tm H hS
 subst hc1
 refine o_nil (hR _ _ ?_)
 clear hR R
 refine c_cond hS rfl (fun hc => ?_) (fun hc => ?_)
 ·replace h0 := iteT hc h0
  refine c_reg fun R hR => ?_
  refine o_pure hS (.inl rfl) rfl rfl ?_; clear hS; try clear tm
  intro tm hS
  refine o_pure hS (.inl rfl) rfl rfl ?_; clear hS; try clear tm
  intro tm hS
  refine o_nil (hR _ _ ?_)
  clear hR R
  refine wpC.ret ?_
  obtain rfl := Option.some.inj h0
  refine Exists.intro _ (And.intro (rs_tmp hS rfl (rs_tmp hS rfl rs_nil)) ?_)
  have hI := hS.inv
  exact ⟨rfl, (hI.sub sn)⟩
 ·replace h0 := iteF hc h0
  refine wpC.skip ?_
  refine c_reg fun R hR => ?_
  refine o_pure hS (.inl rfl) rfl rfl ?_; clear hS; try clear tm
  intro tm hS
  refine o_ld1 (k := 0) hS (.inl rfl) rfl rfl rfl (.inl rfl) Fu22 rfl rfl ?_; clear hS; try clear tm
  intro tm hS
  obtain ⟨y1, hx1, h0⟩ := bindS h0
  refine o_ixA (k := 2) (r := (rI .i64)) hS (.inl rfl) rfl rfl rfl rfl (.inl rfl) Fu22 Fs2 hx1 ?_; clear hS; try clear tm
  intro tm hS
  refine o_ldF (r := (rI .i64)) (k := 2) hS (.inl rfl) rfl rfl rfl (.inl rfl) hx1 Fu2 rfl (flat_I _) rfl ?_; clear hS; try clear tm
  intro tm hS
  refine o_pure hS (.inl rfl) rfl rfl ?_; clear hS; try clear tm
  intro tm hS
  refine o_pure hS (.inl rfl) rfl rfl ?_; clear hS; try clear tm
  intro tm hS
  refine o_nil (hR _ _ ?_)
  clear hR R
  refine wpC.ret ?_
  obtain rfl := Option.some.inj h0
  refine Exists.intro _ (And.intro (rs_tmp hS rfl (rs_tmp hS rfl rs_nil)) ?_)
  have hI := hS.inv
  exact ⟨rfl, (hI.sub sn)⟩
theorem wk37 {wm : Nat} {H : AHeap} {Fr : List Ent}  (n1 : Int)   (hI : Kn wm H [] Fr) {r : Val} (h0 : M.value_Scalar n1 = some r) :
  wpF Try.prog ora wm 37 [.int .i64 n1] H (fun res H => ∃ v2 v3, res = .agg #[.bool r.Char, v2, v3] ∧ Kn wm H [.own (rI .i64) v2 r.Shape, .own (rI .i64) v3 r.Data] Fr) := by
 unfold M.value_Scalar at h0
 refine f_enter (n := 6) Try.func37 rfl (by simp) hI rfl rfl rfl fun tm hS => ?_
 clear hI
 refine c_reg fun R hR => ?_
 refine o_alloc hS (.inl rfl) rfl Fz25 (by decide) ?_; clear hS; try clear tm H
 intro b1 tm H hS
 refine o_nil (hR _ _ ?_)
 clear hR R
 refine c_reg fun R hR => ?_
 refine o_pure hS (.inl rfl) rfl rfl ?_; clear hS; try clear tm
 intro tm hS
 refine o_lit (r := (rI .i64)) (l := [n1]) hS (.inl rfl) rfl Fl22 rfl rfl rfl (.cons rfl .nil) rfl rfl (ri_1 (rd_flat fun _ => rfl) ri_nil) rfl ?_; clear hS; try clear tm H
 intro v1 tm H hS
 refine o_build hS (.inl rfl) rfl Fb25 rfl (.cons (cells_one (hS.one (k := 0) rfl (.inr (.inr rfl)))) .nil) rfl ?_; clear hS; try clear tm
 intro tm hS
 refine o_st (k := 1) hS (.inl rfl) rfl rfl rfl Fs25 rfl rfl (all_cons rfl (all_cons rfl (all_cons (hS.one (k := 0) rfl (.inr (.inr rfl))) all_nil))) rfl ?_; clear hS; try clear H
 intro H hS
 refine o_nil (hR _ _ ?_)
 clear hR R
 refine wpC.ret ?_
 obtain rfl := Option.some.inj h0
 replace hS := hS.nilOwn (rI .i64)
 replace hS := hS.litOwn (k := 1) rfl
 refine Exists.intro _ (And.intro (rs_cellA (k := 2) hS rfl rfl (.inl rfl) Fu25 rfl Fs25 rfl rs_nil) ?_)
 have hI := hS.inv
 exact ⟨(.slice none 0 0), v1, rfl, (hI.sub (sc (sc sn)))⟩
theorem wk53 {wm : Nat} {H : AHeap} {Fr : List Ent}  (s1 : (List Int)) (f1 : (Int → Option (Bool))) (gfn1 : FuncId) (gcap1 : Array Value) (E : List Ent) (hE : ∀ e ∈ E, e.blk = none) (hf : ∀ {wm : Nat} {H : AHeap} {Fr : List Ent} (y0 : Int) , Kn wm H (E) Fr → ∀ {r : Bool}, f1 y0 = some r → wpF Try.prog ora wm gfn1 ([.int .i64 y0] ++ gcap1.toList) H (fun res H => res = .bool r ∧ Kn wm H [] Fr)) (v1 : Value) (hI : Kn wm H (.fz (rI .i64) v1 s1 :: E) Fr) {r : Int} (h0 : M.slices_IndexFunc__int64 s1 f1 = some r) :
  wpF Try.prog ora wm 53 [v1, .func (.func gfn1) #[] gcap1] H (fun res H => res = .int .i64 r ∧ Kn wm H [] Fr) := by
 unfold M.slices_IndexFunc__int64 at h0
 refine f_enter (n := 19) Try.func53 rfl (by simp) hI rfl rfl rfl fun tm hS => ?_
 clear hI
 refine c_reg fun R hR => ?_
 refine o_pure hS (.inl rfl) rfl rfl ?_; clear hS; try clear tm
 intro tm hS
 refine o_nil (hR _ _ ?_)
 clear hR R
 refine c_seqS ?_
 refine c_reg fun R hR => ?_
 refine o_pure hS (.inl rfl) rfl rfl ?_; clear hS; try clear tm
 intro tm hS
 refine o_len (k := 0) (r := (rI .i64)) hS (.inl rfl) rfl rfl rfl (.inl rfl) Fu22 rfl ?_; clear hS; try clear tm
 intro tm hS
 refine o_pure hS (.inl rfl) rfl rfl ?_; clear hS; try clear tm
 intro tm hS
 refine o_nil (hR _ _ ?_)
 clear hR R
 obtain ⟨k1, hw1, h0⟩ := bindS h0
 refine wpC.block ?_
 refine c_loop (I := fun (s : Int) tm H => match (generalizing := false) s with | t1 => S wm 19 tm H [(0, v1), (1, .func (.func gfn1) #[] gcap1), (7, .int .i64 (s1.length : Int)), (8, .int .i64 t1)] (.fz (rI .i64) v1 s1 :: E) Fr) hw1 (by change S wm 19 _ _ _ _ Fr; exact hS.keep (ka_cons rfl (ka_cons rfl (ka_cons rfl (ka_cons rfl ka_nil)))) (fun hI => (hI.sub (sc sr)))) ?_
 clear hS
 intro t1 tm H c1 hS h1 hq1
 change S wm 19 tm H [(0, v1), (1, .func (.func gfn1) #[] gcap1), (7, .int .i64 (s1.length : Int)), (8, .int .i64 t1)] (.fz (rI .i64) v1 s1 :: E) Fr at hS
 refine c_reg fun R hR => ?_
 refine o_pure hS (.inl rfl) rfl rfl ?_; clear hS; try clear tm
 intro tm hS
 refine o_nil (hR _ _ ?_)
 clear hR R
 refine c_seqS ?_
 refine c_cond hS rfl (fun hc => ?_) (fun hc => ?_)
 ·replace h1 := iteT hc h1
  refine wpC.skip ?_
  refine c_seqS ?_
  refine wpC.block ?_
  refine c_reg fun R hR => ?_
  refine o_pure hS (.inl rfl) rfl rfl ?_; clear hS; try clear tm
  intro tm hS
  refine o_pure hS (.inl rfl) rfl rfl ?_; clear hS; try clear tm
  intro tm hS
  refine o_nil (hR _ _ ?_)
  clear hR R
  refine c_reg fun R hR => ?_
  refine o_pure hS (.inl rfl) rfl rfl ?_; clear hS; try clear tm
  intro tm hS
  refine o_pure hS (.inl rfl) rfl rfl ?_; clear hS; try clear tm
  intro tm hS
  refine o_pure hS (.inl rfl) rfl rfl ?_; clear hS; try clear tm
  intro tm hS
  obtain ⟨y1, hx1, h1⟩ := bindS h1
  refine o_ixA (k := 0) (r := (rI .i64)) hS (.inl rfl) rfl rfl rfl rfl (.inl rfl) Fu22 Fs2 hx1 ?_; clear hS; try clear tm
  intro tm hS
  refine o_ldF (r := (rI .i64)) (k := 0) hS (.inl rfl) rfl rfl rfl (.inl rfl) hx1 Fu2 rfl (flat_I _) rfl ?_; clear hS; try clear tm
  intro tm hS
  obtain ⟨r1, hx2, h1⟩ := bindS h1
  refine o_call hS (.inl rfl) rfl (fun wm' hw1 hw2 => hf y1  ((hS.sel hw2).adAll hE (fun e he => List.mem_cons_of_mem _ (he))) hx2) (fun wm' res H hw' hp => ?_)
  obtain ⟨hres, hI⟩ := hp
  replace hres := hres.symm; subst hres
  replace hS : S wm 19 _ H ((16, .bool r1) :: _) ([] ++ _) Fr := hS.after rfl hw' hI
  clear hI hw'
  refine o_nil (hR _ _ ?_)
  clear hR R
  refine c_cond hS rfl (fun hc => ?_) (fun hc => ?_)
  ·replace h1 := iteT hc h1
   refine c_reg fun R hR => ?_
   refine o_pure hS (.inl rfl) rfl rfl ?_; clear hS; try clear tm
   intro tm hS
   refine o_pure hS (.inl rfl) rfl rfl ?_; clear hS; try clear tm
   intro tm hS
   refine o_nil (hR _ _ ?_)
   clear hR R
   refine wpC.ret ?_
   obtain rfl := Option.some.inj h1
   obtain rfl := hq1 _ rfl
   refine And.intro rfl ?_
   obtain rfl := leave h0
   refine Exists.intro _ (And.intro (rs_tmp hS rfl rs_nil) ?_)
   have hI := hS.inv
   exact ⟨rfl, (hI.sub sn)⟩
  ·replace h1 := iteF hc h1
   refine wpC.skip ?_
   refine c_reg1 fun R hR => ?_
   refine o_pure hS (.inl rfl) rfl rfl ?_; clear hS; try clear tm
   intro tm hS
   refine o_pure hS (.inl rfl) rfl rfl ?_; clear hS; try clear tm
   intro tm hS
   refine o_nil (hR _ _ ?_)
   clear hR R
   obtain rfl := Option.some.inj h1
   refine ⟨_, rfl, ?_⟩
   change S wm 19 _ _ _ _ Fr; exact hS.keep (ka_cons rfl (ka_cons rfl (ka_cons rfl (ka_cons rfl ka_nil)))) (fun hI => (hI.sub (sc sr)))
 ·replace h1 := iteF hc h1
  refine wpC.exit ?_
  refine seqX ?_
  obtain rfl := Option.some.inj h1
  obtain rfl := hq1 _ rfl
  refine And.intro rfl (blk_eq ?_)
  replace h0 := joinN h0
  refine c_reg fun R hR => ?_
  refine o_pure hS (.inl rfl) rfl rfl ?_; clear hS; try clear tm
  intro tm hS
  refine o_nil (hR _ _ ?_)
  clear hR R
  refine wpC.ret ?_
  obtain rfl := Option.some.inj h0
  refine Exists.intro _ (And.intro (rs_tmp hS rfl rs_nil) ?_)
  have hI := hS.inv
  exact ⟨rfl, (hI.sub sn)⟩
theorem wk39 {wm : Nat} {H : AHeap} {Fr : List Ent}  (s1 : (List Int)) (f1 : (Int → Option (Bool))) (gfn1 : FuncId) (gcap1 : Array Value) (E : List Ent) (hE : ∀ e ∈ E, e.blk = none) (hf : ∀ {wm : Nat} {H : AHeap} {Fr : List Ent} (y0 : Int) , Kn wm H (E) Fr → ∀ {r : Bool}, f1 y0 = some r → wpF Try.prog ora wm gfn1 ([.int .i64 y0] ++ gcap1.toList) H (fun res H => res = .bool r ∧ Kn wm H [] Fr)) (v1 : Value) (hI : Kn wm H (.fz (rI .i64) v1 s1 :: E) Fr) {r : Bool} (h0 : M.slices_ContainsFunc__int64 s1 f1 = some r) :
  wpF Try.prog ora wm 39 [v1, .func (.func gfn1) #[] gcap1] H (fun res H => res = .bool r ∧ Kn wm H [] Fr) := by
 unfold M.slices_ContainsFunc__int64 at h0
 refine f_enter (n := 9) Try.func39 rfl (by simp) hI rfl rfl rfl fun tm hS => ?_
 clear hI
 refine c_reg fun R hR => ?_
 refine o_pure hS (.inl rfl) rfl rfl ?_; clear hS; try clear tm
 intro tm hS
 refine o_nil (hR _ _ ?_)
 clear hR R
 refine c_reg fun R hR => ?_
 refine o_pure hS (.inl rfl) rfl rfl ?_; clear hS; try clear tm
 intro tm hS
 refine o_pure hS (.inl rfl) rfl rfl ?_; clear hS; try clear tm
 intro tm hS
 obtain ⟨r1, hx1, h0⟩ := bindS h0
 refine o_call hS (.inl rfl) rfl (fun wm' hw1 hw2 => wk53  s1 f1 gfn1 gcap1 E hE hf v1 (((hS.sel hw2).adAll hE (fun e he => List.mem_cons_of_mem _ (he))).ad 0 rfl) hx1) (fun wm' res H hw' hp => ?_)
 obtain ⟨hres, hI⟩ := hp
 replace hres := hres.symm; subst hres
 replace hS : S wm 9 _ H ((7, .int .i64 r1) :: _) ([] ++ _) Fr := hS.after rfl hw' hI
 clear hI hw'
 refine o_pure hS (.inl rfl) rfl rfl ?_; clear hS; try clear tm
 intro tm hS
 refine o_pure hS (.inl rfl) rfl rfl ?_; clear hS; try clear tm
 intro tm hS
 refine o_nil (hR _ _ ?_)
 clear hR R
 refine wpC.ret ?_
 obtain rfl := Option.some.inj h0
 refine Exists.intro _ (And.intro (rs_tmp hS rfl rs_nil) ?_)
 have hI := hS.inv
 exact ⟨rfl, (hI.sub sn)⟩
theorem wk55 {wm : Nat} {H : AHeap} {Fr : List Ent}  (r1 : Int)   (hI : Kn wm H [] Fr) {r : Bool} (h0 : M.unicode_utf8_ValidRune r1 = some r) :
  wpF Try.prog ora wm 55 [.int .i32 r1] H (fun res H => res = .bool r ∧ Kn wm H [] Fr) := by
 unfold M.unicode_utf8_ValidRune at h0
 refine f_enter (n := 17) Try.func55 rfl (by simp) hI rfl rfl rfl fun tm hS => ?_
 clear hI
 refine c_reg fun R hR => ?_
 refine o_pure hS (.inl rfl) rfl rfl ?_; clear hS; try clear tm
 intro tm hS
 refine o_nil (hR _ _ ?_)
 clear hR R
 refine c_seqS ?_
 refine wpC.block ?_
 refine c_reg fun R hR => ?_
 refine o_pure hS (.inl rfl) rfl rfl ?_; clear hS; try clear tm
 intro tm hS
 refine o_pure hS (.inl rfl) rfl rfl ?_; clear hS; try clear tm
 intro tm hS
 refine o_pure hS (.inl rfl) rfl rfl ?_; clear hS; try clear tm
 intro tm hS
 obtain ⟨c1, hc1⟩ : ∃ x : Bool, x = ((decide (0 ≤ r1)) && (decide (r1 < 55296))) := ⟨_, rfl⟩
 refine o_cutN 3 (J := fun tm H => S wm 17 tm H [(9, .bool c1), (0, .int .i32 r1)] [] Fr) ?_ ?_
 ·rcases Bool.eq_false_or_eq_true (decide (0 ≤ r1)) with hg1 | hg1
  ·refine o_pure hS (.inr ⟨_, _, _, _, rfl, rfl, rfl, hg1⟩) rfl rfl ?_; clear hS; try clear tm
   intro tm hS
   refine o_pure hS (.inr ⟨_, _, _, _, rfl, rfl, rfl, hg1⟩) rfl rfl ?_; clear hS; try clear tm
   intro tm hS
   refine o_pickT hS (.inl rfl) rfl rfl hg1 rfl ?_; clear hS; try clear tm
   intro tm hS
   have hc1 : c1 = (decide (r1 < 55296)) := hc1.trans (by rw [hg1]; first | rfl | simp)
   subst hc1
   exact o_nil (hS.keep (ka_cons rfl (ka_cons rfl ka_nil)) (fun hI => (hI.sub sn)))
  ·refine o_skip hS rfl rfl rfl hg1 ?_; clear hS; try clear tm
   intro tm hS
   refine o_skip hS rfl rfl rfl hg1 ?_; clear hS; try clear tm
   intro tm hS
   refine o_pickF hS (.inl rfl) rfl rfl hg1 rfl ?_; clear hS; try clear tm
   intro tm hS
   have hc1 : c1 = false := hc1.trans (by rw [hg1]; first | rfl | simp)
   subst hc1
   exact o_nil (hS.keep (ka_cons rfl (ka_cons rfl ka_nil)) (fun hI => (hI.sub sn)))
 intro tm H hS
 subst hc1
 refine o_pure hS (.inl rfl) rfl rfl ?_; clear hS; try clear tm
 intro tm hS
 refine o_nil (hR _ _ ?_)
 clear hR R
 refine c_cond hS rfl (fun hc => ?_) (fun hc => ?_)
 ·replace h0 := iteT hc h0
  refine c_reg fun R hR => ?_
  refine o_pure hS (.inl rfl) rfl rfl ?_; clear hS; try clear tm
  intro tm hS
  refine o_nil (hR _ _ ?_)
  clear hR R
  refine wpC.ret ?_
  obtain rfl := Option.some.inj h0
  refine Exists.intro _ (And.intro (rs_tmp hS rfl rs_nil) ?_)
  have hI := hS.inv
  exact ⟨rfl, (hI.sub sn)⟩
 ·replace h0 := iteF hc h0
  refine c_reg fun R hR => ?_
  refine o_pure hS (.inl rfl) rfl rfl ?_; clear hS; try clear tm
  intro tm hS
  refine o_pure hS (.inl rfl) rfl rfl ?_; clear hS; try clear tm
  intro tm hS
  refine o_pure hS (.inl rfl) rfl rfl ?_; clear hS; try clear tm
  intro tm hS
  obtain ⟨c2, hc2⟩ : ∃ x : Bool, x = ((decide (57343 < r1)) && (decide (r1 ≤ 1114111))) := ⟨_, rfl⟩
  refine o_cutN 3 (J := fun tm H => S wm 17 tm H [(16, .bool c2)] [] Fr) ?_ ?_
  ·rcases Bool.eq_false_or_eq_true (decide (57343 < r1)) with hg2 | hg2
   ·refine o_pure hS (.inr ⟨_, _, _, _, rfl, rfl, rfl, hg2⟩) rfl rfl ?_; clear hS; try clear tm
    intro tm hS
    refine o_pure hS (.inr ⟨_, _, _, _, rfl, rfl, rfl, hg2⟩) rfl rfl ?_; clear hS; try clear tm
    intro tm hS
    refine o_pickT hS (.inl rfl) rfl rfl hg2 rfl ?_; clear hS; try clear tm
    intro tm hS
    have hc2 : c2 = (decide (r1 ≤ 1114111)) := hc2.trans (by rw [hg2]; first | rfl | simp)
    subst hc2
    exact o_nil (hS.keep (ka_cons rfl ka_nil) (fun hI => (hI.sub sn)))
   ·refine o_skip hS rfl rfl rfl hg2 ?_; clear hS; try clear tm
    intro tm hS
    refine o_skip hS rfl rfl rfl hg2 ?_; clear hS; try clear tm
    intro tm hS
    refine o_pickF hS (.inl rfl) rfl rfl hg2 rfl ?_; clear hS; try clear tm
    intro tm hS
    have hc2 : c2 = false := hc2.trans (by rw [hg2]; first | rfl | simp)
    subst hc2
    exact o_nil (hS.keep (ka_cons rfl ka_nil) (fun hI => (hI.sub sn)))
  intro tm H hS
  subst hc2
  refine o_pure hS (.inl rfl) rfl rfl ?_; clear hS; try clear tm
  intro tm hS
  refine o_nil (hR _ _ ?_)
  clear hR R
  refine c_cond hS rfl (fun hc => ?_) (fun hc => ?_)
  ·replace h0 := iteT hc h0
   refine c_reg fun R hR => ?_
   refine o_pure hS (.inl rfl) rfl rfl ?_; clear hS; try clear tm
   intro tm hS
   refine o_nil (hR _ _ ?_)
   clear hR R
   refine wpC.ret ?_
   obtain rfl := Option.some.inj h0
   refine Exists.intro _ (And.intro (rs_tmp hS rfl rs_nil) ?_)
   have hI := hS.inv
   exact ⟨rfl, (hI.sub sn)⟩
  ·replace h0 := iteF hc h0
   refine wpC.skip ?_
   refine c_reg fun R hR => ?_
   refine o_pure hS (.inl rfl) rfl rfl ?_; clear hS; try clear tm
   intro tm hS
   refine o_nil (hR _ _ ?_)
   clear hR R
   refine wpC.ret ?_
   obtain rfl := Option.some.inj h0
   refine Exists.intro _ (And.intro (rs_tmp hS rfl rs_nil) ?_)
   have hI := hS.inv
   exact ⟨rfl, (hI.sub sn)⟩
theorem wk46 {wm : Nat} {H : AHeap} {Fr : List Ent}  (n1 : Int)   (hI : Kn wm H [] Fr) {r : Bool} (h0 : M.value_character n1 = some r) :
  wpF Try.prog ora wm 46 [.int .i64 n1] H (fun res H => res = .bool r ∧ Kn wm H [] Fr) := by
 unfold M.value_character at h0
 refine f_enter (n := 14) Try.func46 rfl (by simp) hI rfl rfl rfl fun tm hS => ?_
 clear hI
 refine c_reg fun R hR => ?_
 refine o_pure hS (.inl rfl) rfl rfl ?_; clear hS; try clear tm
 intro tm hS
 refine o_nil (hR _ _ ?_)
 clear hR R
 refine c_reg fun R hR => ?_
 refine o_pure hS (.inl rfl) rfl rfl ?_; clear hS; try clear tm
 intro tm hS
 refine o_pure hS (.inl rfl) rfl rfl ?_; clear hS; try clear tm
 intro tm hS
 refine o_pure hS (.inl rfl) rfl rfl ?_; clear hS; try clear tm
 intro tm hS
 obtain ⟨c1, hc1⟩ : ∃ x : Bool, x = ((decide (n1 ≥ 0)) && (decide (n1 ≤ 1114111))) := ⟨_, rfl⟩
 refine o_cutN 3 (J := fun tm H => S wm 14 tm H [(8, .bool c1), (0, .int .i64 n1)] [] Fr) ?_ ?_
 ·rcases Bool.eq_false_or_eq_true (decide (n1 ≥ 0)) with hg1 | hg1
  ·refine o_pure hS (.inr ⟨_, _, _, _, rfl, rfl, rfl, hg1⟩) rfl rfl ?_; clear hS; try clear tm
   intro tm hS
   refine o_pure hS (.inr ⟨_, _, _, _, rfl, rfl, rfl, hg1⟩) rfl rfl ?_; clear hS; try clear tm
   intro tm hS
   refine o_pickT hS (.inl rfl) rfl rfl hg1 rfl ?_; clear hS; try clear tm
   intro tm hS
   have hc1 : c1 = (decide (n1 ≤ 1114111)) := hc1.trans (by rw [hg1]; first | rfl | simp)
   subst hc1
   exact o_nil (hS.keep (ka_cons rfl (ka_cons rfl ka_nil)) (fun hI => (hI.sub sn)))
  ·refine o_skip hS rfl rfl rfl hg1 ?_; clear hS; try clear tm
   intro tm hS
   refine o_skip hS rfl rfl rfl hg1 ?_; clear hS; try clear tm
   intro tm hS
   refine o_pickF hS (.inl rfl) rfl rfl hg1 rfl ?_; clear hS; try clear tm
   intro tm hS
   have hc1 : c1 = false := hc1.trans (by rw [hg1]; first | rfl | simp)
   subst hc1
   exact o_nil (hS.keep (ka_cons rfl (ka_cons rfl ka_nil)) (fun hI => (hI.sub sn)))
 intro tm H hS
 subst hc1
 refine o_pure hS (.inl rfl) rfl rfl ?_; clear hS; try clear tm
 intro tm hS
 obtain ⟨c2, hc2, h0⟩ := bindS h0
 refine o_cutN 4 (J := fun tm H => S wm 14 tm H [(13, .bool c2)] [] Fr) ?_ ?_
 ·rcases Bool.eq_false_or_eq_true ((decide (n1 ≥ 0)) && (decide (n1 ≤ 1114111))) with hg2 | hg2
  ·replace hc2 := iteT hg2 hc2
   refine o_pure hS (.inr ⟨_, _, _, _, rfl, rfl, rfl, hg2⟩) rfl rfl ?_; clear hS; try clear tm
   intro tm hS
   refine o_pure hS (.inr ⟨_, _, _, _, rfl, rfl, rfl, hg2⟩) rfl rfl ?_; clear hS; try clear tm
   intro tm hS
   obtain ⟨r1, hx1, hc2⟩ := bindS hc2
   refine o_call hS (.inr ⟨_, _, _, _, rfl, rfl, rfl, hg2⟩) rfl (fun wm' hw1 hw2 => wk55  (IntKind.i32.wrap n1)   (hS.sel hw2) hx1) (fun wm' res H hw' hp => ?_)
   obtain ⟨hres, hI⟩ := hp
   replace hres := hres.symm; subst hres
   replace hS : S wm 14 _ H ((12, .bool r1) :: _) ([] ++ _) Fr := hS.after rfl hw' hI
   clear hI hw'
   refine o_pickT hS (.inl rfl) rfl rfl hg2 rfl ?_; clear hS; try clear tm
   intro tm hS
   obtain rfl := Option.some.inj hc2
   exact o_nil (hS.keep (ka_cons rfl ka_nil) (fun hI => (hI.sub sn)))
  ·replace hc2 := iteF hg2 hc2
   refine o_skip hS rfl rfl rfl hg2 ?_; clear hS; try clear tm
   intro tm hS
   refine o_skip hS rfl rfl rfl hg2 ?_; clear hS; try clear tm
   intro tm hS
   refine o_skip hS rfl rfl rfl hg2 ?_; clear hS; try clear tm
   intro tm hS
   refine o_pickF hS (.inl rfl) rfl rfl hg2 rfl ?_; clear hS; try clear tm
   intro tm hS
   obtain rfl := Option.some.inj hc2
   exact o_nil (hS.keep (ka_cons rfl ka_nil) (fun hI => (hI.sub sn)))
 intro tm H hS
 refine o_pure hS (.inl rfl) rfl rfl ?_; clear hS; try clear tm
 intro tm hS
 refine o_nil (hR _ _ ?_)
 clear hR R
 refine wpC.ret ?_
 obtain rfl := Option.some.inj h0
 refine Exists.intro _ (And.intro (rs_tmp hS rfl rs_nil) ?_)
 have hI := hS.inv
 exact ⟨rfl, (hI.sub sn)⟩
theorem wk45 {wm : Nat} {H : AHeap} {Fr : List Ent}  (n1 : Int)   (hI : Kn wm H [] Fr) {r : Bool} (h0 : M.value_Right_1 n1 = some r) :
  wpF Try.prog ora wm 45 [.int .i64 n1] H (fun res H => res = .bool r ∧ Kn wm H [] Fr) := by
 unfold M.value_Right_1 at h0
 refine f_enter (n := 6) Try.func45 rfl (by simp) hI rfl rfl rfl fun tm hS => ?_
 clear hI
 refine c_reg fun R hR => ?_
 refine o_pure hS (.inl rfl) rfl rfl ?_; clear hS; try clear tm
 intro tm hS
 refine o_nil (hR _ _ ?_)
 clear hR R
 refine c_reg fun R hR => ?_
 refine o_pure hS (.inl rfl) rfl rfl ?_; clear hS; try clear tm
 intro tm hS
 obtain ⟨r1, hx1, h0⟩ := bindS h0
 refine o_call hS (.inl rfl) rfl (fun wm' hw1 hw2 => wk46  n1   (hS.sel hw2) hx1) (fun wm' res H hw' hp => ?_)
 obtain ⟨hres, hI⟩ := hp
 replace hres := hres.symm; subst hres
 replace hS : S wm 6 _ H ((4, .bool r1) :: _) ([] ++ _) Fr := hS.after rfl hw' hI
 clear hI hw'
 refine o_pure hS (.inl rfl) rfl rfl ?_; clear hS; try clear tm
 intro tm hS
 refine o_pure hS (.inl rfl) rfl rfl ?_; clear hS; try clear tm
 intro tm hS
 refine o_nil (hR _ _ ?_)
 clear hR R
 refine wpC.ret ?_
 obtain rfl := Option.some.inj h0
 refine Exists.intro _ (And.intro (rs_tmp hS rfl rs_nil) ?_)
 have hI := hS.inv
 exact ⟨rfl, (hI.sub sn)⟩
theorem wk30 {wm : Nat} {H : AHeap} {Fr : List Ent}  (v1 : Val)  (v2 : Value) (v3 : Value) (hI : Kn wm H [.fz (rI .i64) v2 v1.Shape, .fz (rI .i64) v3 v1.Data] Fr) {r : Bool} (h0 : M.value_Right v1 = some r) :
  wpF Try.prog ora wm 30 [.agg #[.bool v1.Char, v2, v3]] H (fun res H => res = .bool r ∧ Kn wm H [] Fr) := by
 unfold M.value_Right at h0
 refine f_enter (n := 45) Try.func30 rfl (by simp) hI rfl rfl rfl fun tm hS => ?_
 clear hI
 refine c_reg fun R hR => ?_
 refine o_box hS (.inl rfl) rfl rfl rfl (all_cons rfl (all_cons (hS.one (k := 0) rfl (.inl rfl)) (all_cons (hS.one (k := 1) rfl (.inl rfl)) all_nil))) ?_; clear hS; try clear tm H
 intro b1 tm H hS
 refine o_pure hS (.inl rfl) rfl rfl ?_; clear hS; try clear tm
 intro tm hS
 refine o_nil (hR _ _ ?_)
 clear hR R
 refine c_seqS ?_
 refine c_reg fun R hR => ?_
 refine o_pure hS (.inl rfl) rfl rfl ?_; clear hS; try clear tm
 intro tm hS
 refine o_ld1 (k := 0) hS (.inl rfl) rfl rfl rfl (.inl rfl) Fu23 rfl rfl ?_; clear hS; try clear tm
 intro tm hS
 refine o_len (k := 1) (r := (rI .i64)) hS (.inl rfl) rfl rfl rfl (.inl rfl) Fu23 rfl ?_; clear hS; try clear tm
 intro tm hS
 refine o_pure hS (.inl rfl) rfl rfl ?_; clear hS; try clear tm
 intro tm hS
 refine o_nil (hR _ _ ?_)
 clear hR R
 refine c_cond hS rfl (fun hc => ?_) (fun hc => ?_)
 ·replace h0 := iteT hc h0
  refine c_reg fun R hR => ?_
  refine o_pure hS (.inl rfl) rfl rfl ?_; clear hS; try clear tm
  intro tm hS
  refine o_nil (hR _ _ ?_)
  clear hR R
  refine wpC.ret ?_
  obtain rfl := Option.some.inj h0
  refine Exists.intro _ (And.intro (rs_tmp hS rfl rs_nil) ?_)
  have hI := hS.inv
  exact ⟨rfl, (hI.sub sn)⟩
 ·replace h0 := iteF hc h0
  refine wpC.skip ?_
  refine c_reg fun R hR => ?_
  refine o_pure hS (.inl rfl) rfl rfl ?_; clear hS; try clear tm
  intro tm hS
  refine o_nil (hR _ _ ?_)
  clear hR R
  refine c_seqS ?_
  refine c_reg fun R hR => ?_
  refine o_pure hS (.inl rfl) rfl rfl ?_; clear hS; try clear tm
  intro tm hS
  refine o_ld1 (k := 0) hS (.inl rfl) rfl rfl rfl (.inl rfl) Fu23 rfl rfl ?_; clear hS; try clear tm
  intro tm hS
  refine o_len (k := 1) (r := (rI .i64)) hS (.inl rfl) rfl rfl rfl (.inl rfl) Fu23 rfl ?_; clear hS; try clear tm
  intro tm hS
  refine o_pure hS (.inl rfl) rfl rfl ?_; clear hS; try clear tm
  intro tm hS
  refine o_nil (hR _ _ ?_)
  clear hR R
  obtain ⟨k1, hw1, h0⟩ := bindS h0
  refine wpC.block ?_
  refine c_loop (I := fun (s : Int × Int) tm H => match (generalizing := false) s with | (size1, t1) => S wm 45 tm H [(1, .pointer (some ⟨b1, 0, none⟩)), (3, .int .i64 size1), (11, v2), (12, .int .i64 (v1.Shape.length : Int)), (13, .int .i64 t1)] [.box b1 [.bool v1.Char, v2, v3], .fz (rI .i64) v2 v1.Shape, .fz (rI .i64) v3 v1.Data] Fr) hw1 (by change S wm 45 _ _ _ _ Fr; exact hS.keep (ka_cons rfl (ka_cons rfl (ka_cons rfl (ka_cons rfl (ka_cons rfl ka_nil))))) (fun hI => (hI.sub (sc (sc (sc sn)))))) ?_
  clear hS
  intro s1 tm H c1 hS h1 hq1
  obtain ⟨size1, t1⟩ := s1
  change S wm 45 tm H [(1, .pointer (some ⟨b1, 0, none⟩)), (3, .int .i64 size1), (11, v2), (12, .int .i64 (v1.Shape.length : Int)), (13, .int .i64 t1)] [.box b1 [.bool v1.Char, v2, v3], .fz (rI .i64) v2 v1.Shape, .fz (rI .i64) v3 v1.Data] Fr at hS
  refine c_reg fun R hR => ?_
  refine o_pure hS (.inl rfl) rfl rfl ?_; clear hS; try clear tm
  intro tm hS
  refine o_nil (hR _ _ ?_)
  clear hR R
  refine c_seqS ?_
  refine c_cond hS rfl (fun hc => ?_) (fun hc => ?_)
  ·replace h1 := iteT hc h1
   refine wpC.skip ?_
   refine c_seqS ?_
   refine wpC.block ?_
   refine c_reg fun R hR => ?_
   obtain ⟨y1, hx1, h1⟩ := bindS h1
   refine o_ixA (k := 1) (r := (rI .i64)) hS (.inl rfl) rfl rfl rfl rfl (.inl rfl) Fu23 Fs3 hx1 ?_; clear hS; try clear tm
   intro tm hS
   refine o_ldF (r := (rI .i64)) (k := 1) hS (.inl rfl) rfl rfl rfl (.inl rfl) hx1 Fu3 rfl (flat_I _) rfl ?_; clear hS; try clear tm
   intro tm hS
   refine o_pure hS (.inl rfl) rfl rfl ?_; clear hS; try clear tm
   intro tm hS
   refine o_nil (hR _ _ ?_)
   clear hR R
   refine c_seqS ?_
   refine c_reg fun R hR => ?_
   refine o_pure hS (.inl rfl) rfl rfl ?_; clear hS; try clear tm
   intro tm hS
   refine o_pure hS (.inl rfl) rfl rfl ?_; clear hS; try clear tm
   intro tm hS
   refine o_pure hS (.inl rfl) rfl rfl ?_; clear hS; try clear tm
   intro tm hS
   obtain ⟨c2, hc1⟩ : ∃ x : Bool, x = ((decide (y1 < 0)) || (decide (y1 > 10000))) := ⟨_, rfl⟩
   refine o_cutN 3 (J := fun tm H => S wm 45 tm H [(22, .bool c2), (1, .pointer (some ⟨b1, 0, none⟩)), (3, .int .i64 size1), (11, v2), (12, .int .i64 (v1.Shape.length : Int)), (13, .int .i64 t1), (5, .int .i64 y1)] [.box b1 [.bool v1.Char, v2, v3], .fz (rI .i64) v2 v1.Shape, .fz (rI .i64) v3 v1.Data] Fr) ?_ ?_
   ·rcases Bool.eq_false_or_eq_true (decide (y1 < 0)) with hg1 | hg1
    ·refine o_skip hS rfl rfl rfl hg1 ?_; clear hS; try clear tm
     intro tm hS
     refine o_skip hS rfl rfl rfl hg1 ?_; clear hS; try clear tm
     intro tm hS
     refine o_pickT hS (.inl rfl) rfl rfl hg1 rfl ?_; clear hS; try clear tm
     intro tm hS
     have hc1 : c2 = true := hc1.trans (by rw [hg1]; first | rfl | simp)
     subst hc1
     exact o_nil (hS.keep (ka_cons rfl (ka_cons rfl (ka_cons rfl (ka_cons rfl (ka_cons rfl (ka_cons rfl (ka_cons rfl ka_nil))))))) (fun hI => (hI.sub (sc (sc (sc sn))))))
    ·refine o_pure hS (.inr ⟨_, _, _, _, rfl, rfl, rfl, hg1⟩) rfl rfl ?_; clear hS; try clear tm
     intro tm hS
     refine o_pure hS (.inr ⟨_, _, _, _, rfl, rfl, rfl, hg1⟩) rfl rfl ?_; clear hS; try clear tm
     intro tm hS
     refine o_pickF hS (.inl rfl) rfl rfl hg1 rfl ?_; clear hS; try clear tm
     intro tm hS
     have hc1 : c2 = (decide (y1 > 10000)) := hc1.trans (by rw [hg1]; first | rfl | simp)
     subst hc1
     exact o_nil (hS.keep (ka_cons rfl (ka_cons rfl (ka_cons rfl (ka_cons rfl (ka_cons rfl (ka_cons rfl (ka_cons rfl ka_nil))))))) (fun hI => (hI.sub (sc (sc (sc sn))))))
   intro tm H hS
   subst hc1
   refine o_nil (hR _ _ ?_)
   clear hR R
   refine c_cond hS rfl (fun hc => ?_) (fun hc => ?_)
   ·replace h1 := iteT hc h1
    refine c_reg fun R hR => ?_
    refine o_pure hS (.inl rfl) rfl rfl ?_; clear hS; try clear tm
    intro tm hS
    refine o_nil (hR _ _ ?_)
    clear hR R
    refine wpC.ret ?_
    obtain rfl := Option.some.inj h1
    obtain rfl := hq1 _ rfl
    refine And.intro rfl ?_
    obtain rfl := leave h0
    refine Exists.intro _ (And.intro (rs_tmp hS rfl rs_nil) ?_)
    have hI := hS.inv
    exact ⟨rfl, (hI.sub sn)⟩
   ·replace h1 := iteF hc h1
    refine wpC.skip ?_
    refine c_reg1 fun R hR => ?_
    refine o_pure hS (.inl rfl) rfl rfl ?_; clear hS; try clear tm
    intro tm hS
    refine o_pure hS (.inl rfl) rfl rfl ?_; clear hS; try clear tm
    intro tm hS
    refine o_pure hS (.inl rfl) rfl rfl ?_; clear hS; try clear tm
    intro tm hS
    refine o_pure hS (.inl rfl) rfl rfl ?_; clear hS; try clear tm
    intro tm hS
    refine o_nil (hR _ _ ?_)
    clear hR R
    refine c_reg1 fun R hR => ?_
    refine o_pure hS (.inl rfl) rfl rfl ?_; clear hS; try clear tm
    intro tm hS
    refine o_pure hS (.inl rfl) rfl rfl ?_; clear hS; try clear tm
    intro tm hS
    refine o_nil (hR _ _ ?_)
    clear hR R
    obtain rfl := Option.some.inj h1
    refine ⟨_, rfl, ?_⟩
    change S wm 45 _ _ _ _ Fr; exact hS.keep (ka_cons rfl (ka_cons rfl (ka_cons rfl (ka_cons rfl (ka_cons rfl ka_nil))))) (fun hI => (hI.sub (sc (sc (sc sn)))))
  ·replace h1 := iteF hc h1
   refine wpC.exit ?_
   refine seqX ?_
   obtain rfl := Option.some.inj h1
   obtain rfl := hq1 _ rfl
   refine And.intro rfl (blk_eq ?_)
   replace h0 := joinN h0
   refine c_seqS ?_
   refine c_reg fun R hR => ?_
   refine o_pure hS (.inl rfl) rfl rfl ?_; clear hS; try clear tm
   intro tm hS
   refine o_pure hS (.inl rfl) rfl rfl ?_; clear hS; try clear tm
   intro tm hS
   refine o_pure hS (.inl rfl) rfl rfl ?_; clear hS; try clear tm
   intro tm hS
   obtain ⟨c3, hc2⟩ : ∃ x : Bool, x = ((decide (size1 > 10000)) || (size1 != (v1.Data.length : Int))) := ⟨_, rfl⟩
   refine o_cutN 6 (J := fun tm H => S wm 45 tm H [(35, .bool c3), (1, .pointer (some ⟨b1, 0, none⟩))] [.box b1 [.bool v1.Char, v2, v3], .fz (rI .i64) v2 v1.Shape, .fz (rI .i64) v3 v1.Data] Fr) ?_ ?_
   ·rcases Bool.eq_false_or_eq_true (decide (size1 > 10000)) with hg2 | hg2
    ·refine o_skip hS rfl rfl rfl hg2 ?_; clear hS; try clear tm
     intro tm hS
     refine o_skip hS rfl rfl rfl hg2 ?_; clear hS; try clear tm
     intro tm hS
     refine o_skip hS rfl rfl rfl hg2 ?_; clear hS; try clear tm
     intro tm hS
     refine o_skip hS rfl rfl rfl hg2 ?_; clear hS; try clear tm
     intro tm hS
     refine o_skip hS rfl rfl rfl hg2 ?_; clear hS; try clear tm
     intro tm hS
     refine o_pickT hS (.inl rfl) rfl rfl hg2 rfl ?_; clear hS; try clear tm
     intro tm hS
     have hc2 : c3 = true := hc2.trans (by rw [hg2]; first | rfl | simp)
     subst hc2
     exact o_nil (hS.keep (ka_cons rfl (ka_cons rfl ka_nil)) (fun hI => (hI.sub (sc (sc (sc sn))))))
    ·refine o_pure hS (.inr ⟨_, _, _, _, rfl, rfl, rfl, hg2⟩) rfl rfl ?_; clear hS; try clear tm
     intro tm hS
     refine o_pure hS (.inr ⟨_, _, _, _, rfl, rfl, rfl, hg2⟩) rfl rfl ?_; clear hS; try clear tm
     intro tm hS
     refine o_ld1 (k := 0) hS (.inr ⟨_, _, _, _, rfl, rfl, rfl, hg2⟩) rfl rfl rfl (.inl rfl) Fu22 rfl rfl ?_; clear hS; try clear tm
     intro tm hS
     refine o_len (k := 2) (r := (rI .i64)) hS (.inr ⟨_, _, _, _, rfl, rfl, rfl, hg2⟩) rfl rfl rfl (.inl rfl) Fu22 rfl ?_; clear hS; try clear tm
     intro tm hS
     refine o_pure hS (.inr ⟨_, _, _, _, rfl, rfl, rfl, hg2⟩) rfl rfl ?_; clear hS; try clear tm
     intro tm hS
     refine o_pickF hS (.inl rfl) rfl rfl hg2 rfl ?_; clear hS; try clear tm
     intro tm hS
     have hc2 : c3 = (size1 != (v1.Data.length : Int)) := hc2.trans (by rw [hg2]; first | rfl | simp)
     subst hc2
     exact o_nil (hS.keep (ka_cons rfl (ka_cons rfl ka_nil)) (fun hI => (hI.sub (sc (sc (sc sn))))))
   intro tm H hS
   subst hc2
   refine o_nil (hR _ _ ?_)
   clear hR R
   refine c_cond hS rfl (fun hc => ?_) (fun hc => ?_)
   ·replace h0 := iteT hc h0
    refine c_reg fun R hR => ?_
    refine o_pure hS (.inl rfl) rfl rfl ?_; clear hS; try clear tm
    intro tm hS
    refine o_nil (hR _ _ ?_)
    clear hR R
    refine wpC.ret ?_
    obtain rfl := Option.some.inj h0
    refine Exists.intro _ (And.intro (rs_tmp hS rfl rs_nil) ?_)
    have hI := hS.inv
    exact ⟨rfl, (hI.sub sn)⟩
   ·replace h0 := iteF hc h0
    refine wpC.skip ?_
    refine c_reg fun R hR => ?_
    refine o_pure hS (.inl rfl) rfl rfl ?_; clear hS; try clear tm
    intro tm hS
    refine o_ld1 (k := 0) hS (.inl rfl) rfl rfl rfl (.inl rfl) Fu4 rfl rfl ?_; clear hS; try clear tm
    intro tm hS
    refine o_pure hS (.inl rfl) rfl rfl ?_; clear hS; try clear tm
    intro tm hS
    refine o_pure hS (.inl rfl) rfl rfl ?_; clear hS; try clear tm
    intro tm hS
    obtain ⟨c4, hc3, h0⟩ := bindS h0
    refine o_cutN 5 (J := fun tm H => S wm 45 tm H [(44, .bool c4)] [] Fr) ?_ ?_
    ·rcases Bool.eq_false_or_eq_true (!v1.Char) with hg3 | hg3
     ·replace hc3 := iteT hg3 hc3
      refine o_skip hS rfl rfl rfl hg3 ?_; clear hS; try clear tm
      intro tm hS
      refine o_skip hS rfl rfl rfl hg3 ?_; clear hS; try clear tm
      intro tm hS
      refine o_skip hS rfl rfl rfl hg3 ?_; clear hS; try clear tm
      intro tm hS
      refine o_skip hS rfl rfl rfl hg3 ?_; clear hS; try clear tm
      intro tm hS
      refine o_pickT hS (.inl rfl) rfl rfl hg3 rfl ?_; clear hS; try clear tm
      intro tm hS
      obtain rfl := Option.some.inj hc3
      exact o_nil (hS.keep (ka_cons rfl ka_nil) (fun hI => (hI.sub sn)))
     ·replace hc3 := iteF hg3 hc3
      refine o_pure hS (.inr ⟨_, _, _, _, rfl, rfl, rfl, hg3⟩) rfl rfl ?_; clear hS; try clear tm
      intro tm hS
      refine o_ld1 (k := 0) hS (.inr ⟨_, _, _, _, rfl, rfl, rfl, hg3⟩) rfl rfl rfl (.inl rfl) Fu22 rfl rfl ?_; clear hS; try clear tm
      intro tm hS
      obtain ⟨r1, hx2, hc3⟩ := bindS hc3
      refine o_call hS (.inr ⟨_, _, _, _, rfl, rfl, rfl, hg3⟩) rfl (fun wm' hw1 hw2 => wk39  v1.Data (fun x0 => M.value_Right_1 x0) 45 #[] [] (by simp [Ent.blk]) (fun x0 hI _ h0 => wk45  x0   hI h0) v3 ((hS.sel hw2).ad 2 rfl) hx2) (fun wm' res H hw' hp => ?_)
      obtain ⟨hres, hI⟩ := hp
      replace hres := hres.symm; subst hres
      replace hS : S wm 45 _ H ((42, .bool r1) :: _) ([] ++ _) Fr := hS.after rfl hw' hI
      clear hI hw'
      refine o_pure hS (.inr ⟨_, _, _, _, rfl, rfl, rfl, hg3⟩) rfl rfl ?_; clear hS; try clear tm
      intro tm hS
      refine o_pickF hS (.inl rfl) rfl rfl hg3 rfl ?_; clear hS; try clear tm
      intro tm hS
      obtain rfl := Option.some.inj hc3
      exact o_nil (hS.keep (ka_cons rfl ka_nil) (fun hI => (hI.sub sn)))
    intro tm H hS
    refine o_pure hS (.inl rfl) rfl rfl ?_; clear hS; try clear tm
    intro tm hS
    refine o_nil (hR _ _ ?_)
    clear hR R
    refine wpC.ret ?_
    obtain rfl := Option.some.inj h0
    refine Exists.intro _ (And.intro (rs_tmp hS rfl rs_nil) ?_)
    have hI := hS.inv
    exact ⟨rfl, (hI.sub sn)⟩
theorem wk47 {wm : Nat} {H : AHeap} {Fr : List Ent}  (s1 : (List Int)) (s2 : (List Int))  (v1 : Value) (v2 : Value) (hI : Kn wm H [.fz (rI .i64) v1 s1, .fz (rI .i64) v2 s2] Fr) {r : Bool} (h0 : M.slices_Equal__int s1 s2 = some r) :
  wpF Try.prog ora wm 47 [v1, v2] H (fun res H => res = .bool r ∧ Kn wm H [] Fr) := by
 unfold M.slices_Equal__int at h0
 refine f_enter (n := 26) Try.func47 rfl (by simp) hI rfl rfl rfl fun tm hS => ?_
 clear hI
 refine c_reg fun R hR => ?_
 refine o_pure hS (.inl rfl) rfl rfl ?_; clear hS; try clear tm
 intro tm hS
 refine o_nil (hR _ _ ?_)
 clear hR R
 refine c_seqS ?_
 refine c_reg fun R hR => ?_
 refine o_pure hS (.inl rfl) rfl rfl ?_; clear hS; try clear tm
 intro tm hS
 refine o_len (k := 0) (r := (rI .i64)) hS (.inl rfl) rfl rfl rfl (.inl rfl) Fu23 rfl ?_; clear hS; try clear tm
 intro tm hS
 refine o_pure hS (.inl rfl) rfl rfl ?_; clear hS; try clear tm
 intro tm hS
 refine o_len (k := 1) (r := (rI .i64)) hS (.inl rfl) rfl rfl rfl (.inl rfl) Fu23 rfl ?_; clear hS; try clear tm
 intro tm hS
 refine o_pure hS (.inl rfl) rfl rfl ?_; clear hS; try clear tm
 intro tm hS
 refine o_nil (hR _ _ ?_)
 clear hR R
 refine c_cond hS rfl (fun hc => ?_) (fun hc => ?_)
 ·replace h0 := iteT hc h0
  refine c_reg fun R hR => ?_
  refine o_pure hS (.inl rfl) rfl rfl ?_; clear hS; try clear tm
  intro tm hS
  refine o_nil (hR _ _ ?_)
  clear hR R
  refine wpC.ret ?_
  obtain rfl := Option.some.inj h0
  refine Exists.intro _ (And.intro (rs_tmp hS rfl rs_nil) ?_)
  have hI := hS.inv
  exact ⟨rfl, (hI.sub sn)⟩
 ·replace h0 := iteF hc h0
  refine wpC.skip ?_
  refine c_seqS ?_
  refine c_reg fun R hR => ?_
  refine o_pure hS (.inl rfl) rfl rfl ?_; clear hS; try clear tm
  intro tm hS
  refine o_len (k := 0) (r := (rI .i64)) hS (.inl rfl) rfl rfl rfl (.inl rfl) Fu23 rfl ?_; clear hS; try clear tm
  intro tm hS
  refine o_pure hS (.inl rfl) rfl rfl ?_; clear hS; try clear tm
  intro tm hS
  refine o_nil (hR _ _ ?_)
  clear hR R
  obtain ⟨k1, hw1, h0⟩ := bindS h0
  refine wpC.block ?_
  refine c_loop (I := fun (s : Int) tm H => match (generalizing := false) s with | t1 => S wm 26 tm H [(0, v1), (1, v2), (12, .int .i64 (s1.length : Int)), (13, .int .i64 t1)] [.fz (rI .i64) v1 s1, .fz (rI .i64) v2 s2] Fr) hw1 (by change S wm 26 _ _ _ _ Fr; exact hS.keep (ka_cons rfl (ka_cons rfl (ka_cons rfl (ka_cons rfl ka_nil)))) (fun hI => (hI.sub (sc (sc sn))))) ?_
  clear hS
  intro t1 tm H c1 hS h1 hq1
  change S wm 26 tm H [(0, v1), (1, v2), (12, .int .i64 (s1.length : Int)), (13, .int .i64 t1)] [.fz (rI .i64) v1 s1, .fz (rI .i64) v2 s2] Fr at hS
  refine c_reg fun R hR => ?_
  refine o_pure hS (.inl rfl) rfl rfl ?_; clear hS; try clear tm
  intro tm hS
  refine o_nil (hR _ _ ?_)
  clear hR R
  refine c_seqS ?_
  refine c_cond hS rfl (fun hc => ?_) (fun hc => ?_)
  ·replace h1 := iteT hc h1
   refine wpC.skip ?_
   refine c_seqS ?_
   refine wpC.block ?_
   refine c_reg fun R hR => ?_
   refine o_pure hS (.inl rfl) rfl rfl ?_; clear hS; try clear tm
   intro tm hS
   refine o_pure hS (.inl rfl) rfl rfl ?_; clear hS; try clear tm
   intro tm hS
   refine o_nil (hR _ _ ?_)
   clear hR R
   refine c_reg fun R hR => ?_
   refine o_pure hS (.inl rfl) rfl rfl ?_; clear hS; try clear tm
   intro tm hS
   refine o_pure hS (.inl rfl) rfl rfl ?_; clear hS; try clear tm
   intro tm hS
   obtain ⟨y1, hx1, h1⟩ := bindS h1
   refine o_ixA (k := 0) (r := (rI .i64)) hS (.inl rfl) rfl rfl rfl rfl (.inl rfl) Fu23 Fs3 hx1 ?_; clear hS; try clear tm
   intro tm hS
   refine o_ldF (r := (rI .i64)) (k := 0) hS (.inl rfl) rfl rfl rfl (.inl rfl) hx1 Fu3 rfl (flat_I _) rfl ?_; clear hS; try clear tm
   intro tm hS
   refine o_pure hS (.inl rfl) rfl rfl ?_; clear hS; try clear tm
   intro tm hS
   refine o_pure hS (.inl rfl) rfl rfl ?_; clear hS; try clear tm
   intro tm hS
   obtain ⟨y2, hx2, h1⟩ := bindS h1
   refine o_ixA (k := 1) (r := (rI .i64)) hS (.inl rfl) rfl rfl rfl rfl (.inl rfl) Fu23 Fs3 hx2 ?_; clear hS; try clear tm
   intro tm hS
   refine o_ldF (r := (rI .i64)) (k := 1) hS (.inl rfl) rfl rfl rfl (.inl rfl) hx2 Fu3 rfl (flat_I _) rfl ?_; clear hS; try clear tm
   intro tm hS
   refine o_pure hS (.inl rfl) rfl rfl ?_; clear hS; try clear tm
   intro tm hS
   refine o_nil (hR _ _ ?_)
   clear hR R
   refine c_cond hS rfl (fun hc => ?_) (fun hc => ?_)
   ·replace h1 := iteT hc h1
    refine c_reg fun R hR => ?_
    refine o_pure hS (.inl rfl) rfl rfl ?_; clear hS; try clear tm
    intro tm hS
    refine o_nil (hR _ _ ?_)
    clear hR R
    refine wpC.ret ?_
    obtain rfl := Option.some.inj h1
    obtain rfl := hq1 _ rfl
    refine And.intro rfl ?_
    obtain rfl := leave h0
    refine Exists.intro _ (And.intro (rs_tmp hS rfl rs_nil) ?_)
    have hI := hS.inv
    exact ⟨rfl, (hI.sub sn)⟩
   ·replace h1 := iteF hc h1
    refine wpC.skip ?_
    refine c_reg1 fun R hR => ?_
    refine o_pure hS (.inl rfl) rfl rfl ?_; clear hS; try clear tm
    intro tm hS
    refine o_pure hS (.inl rfl) rfl rfl ?_; clear hS; try clear tm
    intro tm hS
    refine o_nil (hR _ _ ?_)
    clear hR R
    obtain rfl := Option.some.inj h1
    refine ⟨_, rfl, ?_⟩
    change S wm 26 _ _ _ _ Fr; exact hS.keep (ka_cons rfl (ka_cons rfl (ka_cons rfl (ka_cons rfl ka_nil)))) (fun hI => (hI.sub (sc (sc sn))))
  ·replace h1 := iteF hc h1
   refine wpC.exit ?_
   refine seqX ?_
   obtain rfl := Option.some.inj h1
   obtain rfl := hq1 _ rfl
   refine And.intro rfl (blk_eq ?_)
   replace h0 := joinN h0
   refine c_reg fun R hR => ?_
   refine o_pure hS (.inl rfl) rfl rfl ?_; clear hS; try clear tm
   intro tm hS
   refine o_nil (hR _ _ ?_)
   clear hR R
   refine wpC.ret ?_
   obtain rfl := Option.some.inj h0
   refine Exists.intro _ (And.intro (rs_tmp hS rfl rs_nil) ?_)
   have hI := hS.inv
   exact ⟨rfl, (hI.sub sn)⟩
theorem wk48 {wm : Nat} {H : AHeap} {Fr : List Ent}  (s1 : (List Int)) (s2 : (List Int))  (v1 : Value) (v2 : Value) (hI : Kn wm H [.fz (rI .i64) v1 s1, .fz (rI .i64) v2 s2] Fr) {r : Bool} (h0 : M.slices_Equal__int64 s1 s2 = some r) :
  wpF Try.prog ora wm 48 [v1, v2] H (fun res H => res = .bool r ∧ Kn wm H [] Fr) := by
 unfold M.slices_Equal__int64 at h0
 refine f_enter (n := 26) Try.func48 rfl (by simp) hI rfl rfl rfl fun tm hS => ?_
 clear hI
 refine c_reg fun R hR => ?_
 refine o_pure hS (.inl rfl) rfl rfl ?_; clear hS; try clear tm
 intro tm hS
 refine o_nil (hR _ _ ?_)
 clear hR R
 refine c_seqS ?_
 refine c_reg fun R hR => ?_
 refine o_pure hS (.inl rfl) rfl rfl ?_; clear hS; try clear tm
 intro tm hS
 refine o_len (k := 0) (r := (rI .i64)) hS (.inl rfl) rfl rfl rfl (.inl rfl) Fu22 rfl ?_; clear hS; try clear tm
 intro tm hS
 refine o_pure hS (.inl rfl) rfl rfl ?_; clear hS; try clear tm
 intro tm hS
 refine o_len (k := 1) (r := (rI .i64)) hS (.inl rfl) rfl rfl rfl (.inl rfl) Fu22 rfl ?_; clear hS; try clear tm
 intro tm hS
 refine o_pure hS (.inl rfl) rfl rfl ?_; clear hS; try clear tm
 intro tm hS
 refine o_nil (hR _ _ ?_)
 clear hR R
 refine c_cond hS rfl (fun hc => ?_) (fun hc => ?_)
 ·replace h0 := iteT hc h0
  refine c_reg fun R hR => ?_
  refine o_pure hS (.inl rfl) rfl rfl ?_; clear hS; try clear tm
  intro tm hS
  refine o_nil (hR _ _ ?_)
  clear hR R
  refine wpC.ret ?_
  obtain rfl := Option.some.inj h0
  refine Exists.intro _ (And.intro (rs_tmp hS rfl rs_nil) ?_)
  have hI := hS.inv
  exact ⟨rfl, (hI.sub sn)⟩
 ·replace h0 := iteF hc h0
  refine wpC.skip ?_
  refine c_seqS ?_
  refine c_reg fun R hR => ?_
  refine o_pure hS (.inl rfl) rfl rfl ?_; clear hS; try clear tm
  intro tm hS
  refine o_len (k := 0) (r := (rI .i64)) hS (.inl rfl) rfl rfl rfl (.inl rfl) Fu22 rfl ?_; clear hS; try clear tm
  intro tm hS
  refine o_pure hS (.inl rfl) rfl rfl ?_; clear hS; try clear tm
  intro tm hS
  refine o_nil (hR _ _ ?_)
  clear hR R
  obtain ⟨k1, hw1, h0⟩ := bindS h0
  refine wpC.block ?_
  refine c_loop (I := fun (s : Int) tm H => match (generalizing := false) s with | t1 => S wm 26 tm H [(0, v1), (1, v2), (12, .int .i64 (s1.length : Int)), (13, .int .i64 t1)] [.fz (rI .i64) v1 s1, .fz (rI .i64) v2 s2] Fr) hw1 (by change S wm 26 _ _ _ _ Fr; exact hS.keep (ka_cons rfl (ka_cons rfl (ka_cons rfl (ka_cons rfl ka_nil)))) (fun hI => (hI.sub (sc (sc sn))))) ?_
  clear hS
  intro t1 tm H c1 hS h1 hq1
  change S wm 26 tm H [(0, v1), (1, v2), (12, .int .i64 (s1.length : Int)), (13, .int .i64 t1)] [.fz (rI .i64) v1 s1, .fz (rI .i64) v2 s2] Fr at hS
  refine c_reg fun R hR => ?_
  refine o_pure hS (.inl rfl) rfl rfl ?_; clear hS; try clear tm
  intro tm hS
  refine o_nil (hR _ _ ?_)
  clear hR R
  refine c_seqS ?_
  refine c_cond hS rfl (fun hc => ?_) (fun hc => ?_)
  ·replace h1 := iteT hc h1
   refine wpC.skip ?_
   refine c_seqS ?_
   refine wpC.block ?_
   refine c_reg fun R hR => ?_
   refine o_pure hS (.inl rfl) rfl rfl ?_; clear hS; try clear tm
   intro tm hS
   refine o_pure hS (.inl rfl) rfl rfl ?_; clear hS; try clear tm
   intro tm hS
   refine o_nil (hR _ _ ?_)
   clear hR R
   refine c_reg fun R hR => ?_
   refine o_pure hS (.inl rfl) rfl rfl ?_; clear hS; try clear tm
   intro tm hS
   refine o_pure hS (.inl rfl) rfl rfl ?_; clear hS; try clear tm
   intro tm hS
   obtain ⟨y1, hx1, h1⟩ := bindS h1
   refine o_ixA (k := 0) (r := (rI .i64)) hS (.inl rfl) rfl rfl rfl rfl (.inl rfl) Fu22 Fs2 hx1 ?_; clear hS; try clear tm
   intro tm hS
   refine o_ldF (r := (rI .i64)) (k := 0) hS (.inl rfl) rfl rfl rfl (.inl rfl) hx1 Fu2 rfl (flat_I _) rfl ?_; clear hS; try clear tm
   intro tm hS
   refine o_pure hS (.inl rfl) rfl rfl ?_; clear hS; try clear tm
   intro tm hS
   refine o_pure hS (.inl rfl) rfl rfl ?_; clear hS; try clear tm
   intro tm hS
   obtain ⟨y2, hx2, h1⟩ := bindS h1
   refine o_ixA (k := 1) (r := (rI .i64)) hS (.inl rfl) rfl rfl rfl rfl (.inl rfl) Fu22 Fs2 hx2 ?_; clear hS; try clear tm
   intro tm hS
   refine o_ldF (r := (rI .i64)) (k := 1) hS (.inl rfl) rfl rfl rfl (.inl rfl) hx2 Fu2 rfl (flat_I _) rfl ?_; clear hS; try clear tm
   intro tm hS
   refine o_pure hS (.inl rfl) rfl rfl ?_; clear hS; try clear tm
   intro tm hS
   refine o_nil (hR _ _ ?_)
   clear hR R
   refine c_cond hS rfl (fun hc => ?_) (fun hc => ?_)
   ·replace h1 := iteT hc h1
    refine c_reg fun R hR => ?_
    refine o_pure hS (.inl rfl) rfl rfl ?_; clear hS; try clear tm
    intro tm hS
    refine o_nil (hR _ _ ?_)
    clear hR R
    refine wpC.ret ?_
    obtain rfl := Option.some.inj h1
    obtain rfl := hq1 _ rfl
    refine And.intro rfl ?_
    obtain rfl := leave h0
    refine Exists.intro _ (And.intro (rs_tmp hS rfl rs_nil) ?_)
    have hI := hS.inv
    exact ⟨rfl, (hI.sub sn)⟩
   ·replace h1 := iteF hc h1
    refine wpC.skip ?_
    refine c_reg1 fun R hR => ?_
    refine o_pure hS (.inl rfl) rfl rfl ?_; clear hS; try clear tm
    intro tm hS
    refine o_pure hS (.inl rfl) rfl rfl ?_; clear hS; try clear tm
    intro tm hS
    refine o_nil (hR _ _ ?_)
    clear hR R
    obtain rfl := Option.some.inj h1
    refine ⟨_, rfl, ?_⟩
    change S wm 26 _ _ _ _ Fr; exact hS.keep (ka_cons rfl (ka_cons rfl (ka_cons rfl (ka_cons rfl ka_nil)))) (fun hI => (hI.sub (sc (sc sn))))
  ·replace h1 := iteF hc h1
   refine wpC.exit ?_
   refine seqX ?_
   obtain rfl := Option.some.inj h1
   obtain rfl := hq1 _ rfl
   refine And.intro rfl (blk_eq ?_)
   replace h0 := joinN h0
   refine c_reg fun R hR => ?_
   refine o_pure hS (.inl rfl) rfl rfl ?_; clear hS; try clear tm
   intro tm hS
   refine o_nil (hR _ _ ?_)
   clear hR R
   refine wpC.ret ?_
   obtain rfl := Option.some.inj h0
   refine Exists.intro _ (And.intro (rs_tmp hS rfl rs_nil) ?_)
   have hI := hS.inv
   exact ⟨rfl, (hI.sub sn)⟩
theorem wk31 {wm : Nat} {H : AHeap} {Fr : List Ent}  (a1 : Val) (b1 : Val)  (v1 : Value) (v2 : Value) (v3 : Value) (v4 : Value) (hI : Kn wm H [.fz (rI .i64) v1 a1.Shape, .fz (rI .i64) v2 a1.Data, .fz (rI .i64) v3 b1.Shape, .fz (rI .i64) v4 b1.Data] Fr) {r : Bool} (h0 : M.value_Same a1 b1 = some r) :
  wpF Try.prog ora wm 31 [.agg #[.bool a1.Char, v1, v2], .agg #[.bool b1.Char, v3, v4]] H (fun res H => res = .bool r ∧ Kn wm H [] Fr) := by
 unfold M.value_Same at h0
 refine f_enter (n := 24) Try.func31 rfl (by simp) hI rfl rfl rfl fun tm hS => ?_
 clear hI
 refine c_reg fun R hR => ?_
 refine o_box hS (.inl rfl) rfl rfl rfl (all_cons rfl (all_cons (hS.one (k := 0) rfl (.inl rfl)) (all_cons (hS.one (k := 1) rfl (.inl rfl)) all_nil))) ?_; clear hS; try clear tm H
 intro b2 tm H hS
 refine o_box hS (.inl rfl) rfl rfl rfl (all_cons rfl (all_cons (hS.one (k := 3) rfl (.inl rfl)) (all_cons (hS.one (k := 4) rfl (.inl rfl)) all_nil))) ?_; clear hS; try clear tm H
 intro b3 tm H hS
 refine o_pure hS (.inl rfl) rfl rfl ?_; clear hS; try clear tm
 intro tm hS
 refine o_nil (hR _ _ ?_)
 clear hR R
 refine c_reg fun R hR => ?_
 refine o_pure hS (.inl rfl) rfl rfl ?_; clear hS; try clear tm
 intro tm hS
 refine o_ld1 (k := 1) hS (.inl rfl) rfl rfl rfl (.inl rfl) Fu4 rfl rfl ?_; clear hS; try clear tm
 intro tm hS
 refine o_pure hS (.inl rfl) rfl rfl ?_; clear hS; try clear tm
 intro tm hS
 refine o_ld1 (k := 0) hS (.inl rfl) rfl rfl rfl (.inl rfl) Fu4 rfl rfl ?_; clear hS; try clear tm
 intro tm hS
 refine o_pure hS (.inl rfl) rfl rfl ?_; clear hS; try clear tm
 intro tm hS
 refine o_pure hS (.inl rfl) rfl rfl ?_; clear hS; try clear tm
 intro tm hS
 obtain ⟨c1, hc1, h0⟩ := bindS h0
 refine o_cutN 6 (J := fun tm H => S wm 24 tm H [(16, .bool c1), (2, .pointer (some ⟨b2, 0, none⟩)), (3, .pointer (some ⟨b3, 0, none⟩))] [.box b3 [.bool b1.Char, v3, v4], .box b2 [.bool a1.Char, v1, v2], .fz (rI .i64) v1 a1.Shape, .fz (rI .i64) v2 a1.Data, .fz (rI .i64) v3 b1.Shape, .fz (rI .i64) v4 b1.Data] Fr) ?_ ?_
 ·rcases Bool.eq_false_or_eq_true (a1.Char == b1.Char) with hg1 | hg1
  ·replace hc1 := iteT hg1 hc1
   refine o_pure hS (.inr ⟨_, _, _, _, rfl, rfl, rfl, hg1⟩) rfl rfl ?_; clear hS; try clear tm
   intro tm hS
   refine o_ld1 (k := 1) hS (.inr ⟨_, _, _, _, rfl, rfl, rfl, hg1⟩) rfl rfl rfl (.inl rfl) Fu23 rfl rfl ?_; clear hS; try clear tm
   intro tm hS
   refine o_pure hS (.inr ⟨_, _, _, _, rfl, rfl, rfl, hg1⟩) rfl rfl ?_; clear hS; try clear tm
   intro tm hS
   refine o_ld1 (k := 0) hS (.inr ⟨_, _, _, _, rfl, rfl, rfl, hg1⟩) rfl rfl rfl (.inl rfl) Fu23 rfl rfl ?_; clear hS; try clear tm
   intro tm hS
   obtain ⟨r1, hx1, hc1⟩ := bindS hc1
   refine o_call hS (.inr ⟨_, _, _, _, rfl, rfl, rfl, hg1⟩) rfl (fun wm' hw1 hw2 => wk47  a1.Shape b1.Shape  v1 v3 (((hS.sel hw2).ad 4 rfl).ad 2 rfl) hx1) (fun wm' res H hw' hp => ?_)
   obtain ⟨hres, hI⟩ := hp
   replace hres := hres.symm; subst hres
   replace hS : S wm 24 _ H ((15, .bool r1) :: _) ([] ++ _) Fr := hS.after rfl hw' hI
   clear hI hw'
   refine o_pickT hS (.inl rfl) rfl rfl hg1 rfl ?_; clear hS; try clear tm
   intro tm hS
   obtain rfl := Option.some.inj hc1
   exact o_nil (hS.keep (ka_cons rfl (ka_cons rfl (ka_cons rfl ka_nil))) (fun hI => (hI.sub (sc (sc (sc (sc (sc (sc sn)))))))))
  ·replace hc1 := iteF hg1 hc1
   refine o_skip hS rfl rfl rfl hg1 ?_; clear hS; try clear tm
   intro tm hS
   refine o_skip hS rfl rfl rfl hg1 ?_; clear hS; try clear tm
   intro tm hS
   refine o_skip hS rfl rfl rfl hg1 ?_; clear hS; try clear tm
   intro tm hS
   refine o_skip hS rfl rfl rfl hg1 ?_; clear hS; try clear tm
   intro tm hS
   refine o_skip hS rfl rfl rfl hg1 ?_; clear hS; try clear tm
   intro tm hS
   refine o_pickF hS (.inl rfl) rfl rfl hg1 rfl ?_; clear hS; try clear tm
   intro tm hS
   obtain rfl := Option.some.inj hc1
   exact o_nil (hS.keep (ka_cons rfl (ka_cons rfl (ka_cons rfl ka_nil))) (fun hI => (hI.sub (sc (sc (sc (sc (sc (sc sn)))))))))
 intro tm H hS
 refine o_pure hS (.inl rfl) rfl rfl ?_; clear hS; try clear tm
 intro tm hS
 obtain ⟨c2, hc2, h0⟩ := bindS h0
 refine o_cutN 6 (J := fun tm H => S wm 24 tm H [(23, .bool c2)] [] Fr) ?_ ?_
 ·rcases Bool.eq_false_or_eq_true c1 with hg2 | hg2
  ·replace hc2 := iteT hg2 hc2
   refine o_pure hS (.inr ⟨_, _, _, _, rfl, rfl, rfl, hg2⟩) rfl rfl ?_; clear hS; try clear tm
   intro tm hS
   refine o_ld1 (k := 1) hS (.inr ⟨_, _, _, _, rfl, rfl, rfl, hg2⟩) rfl rfl rfl (.inl rfl) Fu22 rfl rfl ?_; clear hS; try clear tm
   intro tm hS
   refine o_pure hS (.inr ⟨_, _, _, _, rfl, rfl, rfl, hg2⟩) rfl rfl ?_; clear hS; try clear tm
   intro tm hS
   refine o_ld1 (k := 0) hS (.inr ⟨_, _, _, _, rfl, rfl, rfl, hg2⟩) rfl rfl rfl (.inl rfl) Fu22 rfl rfl ?_; clear hS; try clear tm
   intro tm hS
   obtain ⟨r2, hx2, hc2⟩ := bindS hc2
   refine o_call hS (.inr ⟨_, _, _, _, rfl, rfl, rfl, hg2⟩) rfl (fun wm' hw1 hw2 => wk48  a1.Data b1.Data  v2 v4 (((hS.sel hw2).ad 5 rfl).ad 3 rfl) hx2) (fun wm' res H hw' hp => ?_)
   obtain ⟨hres, hI⟩ := hp
   replace hres := hres.symm; subst hres
   replace hS : S wm 24 _ H ((22, .bool r2) :: _) ([] ++ _) Fr := hS.after rfl hw' hI
   clear hI hw'
   refine o_pickT hS (.inl rfl) rfl rfl hg2 rfl ?_; clear hS; try clear tm
   intro tm hS
   obtain rfl := Option.some.inj hc2
   exact o_nil (hS.keep (ka_cons rfl ka_nil) (fun hI => (hI.sub sn)))
  ·replace hc2 := iteF hg2 hc2
   refine o_skip hS rfl rfl rfl hg2 ?_; clear hS; try clear tm
   intro tm hS
   refine o_skip hS rfl rfl rfl hg2 ?_; clear hS; try clear tm
   intro tm hS
   refine o_skip hS rfl rfl rfl hg2 ?_; clear hS; try clear tm
   intro tm hS
   refine o_skip hS rfl rfl rfl hg2 ?_; clear hS; try clear tm
   intro tm hS
   refine o_skip hS rfl rfl rfl hg2 ?_; clear hS; try clear tm
   intro tm hS
   refine o_pickF hS (.inl rfl) rfl rfl hg2 rfl ?_; clear hS; try clear tm
   intro tm hS
   obtain rfl := Option.some.inj hc2
   exact o_nil (hS.keep (ka_cons rfl ka_nil) (fun hI => (hI.sub sn)))
 intro tm H hS
 refine o_pure hS (.inl rfl) rfl rfl ?_; clear hS; try clear tm
 intro tm hS
 refine o_nil (hR _ _ ?_)
 clear hR R
 refine wpC.ret ?_
 obtain rfl := Option.some.inj h0
 refine Exists.intro _ (And.intro (rs_tmp hS rfl rs_nil) ?_)
 have hI := hS.inv
 exact ⟨rfl, (hI.sub sn)⟩
theorem wk35 {wm : Nat} {H : AHeap} {Fr : List Ent}  (v1 : Val)  (v2 : Value) (v3 : Value) (hI : Kn wm H [.fz (rI .i64) v2 v1.Shape, .fz (rI .i64) v3 v1.Data] Fr) {r : Int} (h0 : M.value_Fill v1 = some r) :
  wpF Try.prog ora wm 35 [.agg #[.bool v1.Char, v2, v3]] H (fun res H => res = .int .i64 r ∧ Kn wm H [] Fr) := by
 unfold M.value_Fill at h0
 refine f_enter (n := 5) Try.func35 rfl (by simp) hI rfl rfl rfl fun tm hS => ?_
 clear hI
 refine c_reg fun R hR => ?_
 refine o_box hS (.inl rfl) rfl rfl rfl (all_cons rfl (all_cons (hS.one (k := 0) rfl (.inl rfl)) (all_cons (hS.one (k := 1) rfl (.inl rfl)) all_nil))) ?_; clear hS; try clear tm H
 intro b1 tm H hS
 refine o_pure hS (.inl rfl) rfl rfl ?_; clear hS; try clear tm
 intro tm hS
 refine o_nil (hR _ _ ?_)
 clear hR R
 refine c_seqS ?_
 refine c_reg fun R hR => ?_
 refine o_pure hS (.inl rfl) rfl rfl ?_; clear hS; try clear tm
 intro tm hS
 refine o_ld1 (k := 0) hS (.inl rfl) rfl rfl rfl (.inl rfl) Fu4 rfl rfl ?_; clear hS; try clear tm
 intro tm hS
 refine o_nil (hR _ _ ?_)
 clear hR R
 refine c_cond hS rfl (fun hc => ?_) (fun hc => ?_)
 ·replace h0 := iteT hc h0
  refine c_reg fun R hR => ?_
  refine o_pure hS (.inl rfl) rfl rfl ?_; clear hS; try clear tm
  intro tm hS
  refine o_nil (hR _ _ ?_)
  clear hR R
  refine wpC.ret ?_
  obtain rfl := Option.some.inj h0
  refine Exists.intro _ (And.intro (rs_tmp hS rfl rs_nil) ?_)
  have hI := hS.inv
  exact ⟨rfl, (hI.sub sn)⟩
 ·replace h0 := iteF hc h0
  refine wpC.skip ?_
  refine c_reg fun R hR => ?_
  refine o_pure hS (.inl rfl) rfl rfl ?_; clear hS; try clear tm
  intro tm hS
  refine o_nil (hR _ _ ?_)
  clear hR R
  refine wpC.ret ?_
  obtain rfl := Option.some.inj h0
  refine Exists.intro _ (And.intro (rs_tmp hS rfl rs_nil) ?_)
  have hI := hS.inv
  exact ⟨rfl, (hI.sub sn)⟩
theorem wk9 {wm : Nat} {H : AHeap} {Fr : List Ent} (ho9 : ora 9 = false) (ho28 : ora 28 = true)    (hI : Kn wm H [] Fr) {r : Bool} (h0 : M.anamnesislaw02_ValueKnown = some r) :
  wpF Try.prog ora wm 9 [] H (fun res H => res = .bool r ∧ Kn wm H [] Fr) := by
 unfold M.anamnesislaw02_ValueKnown at h0
 refine f_enter (n := 125) Try.func9 rfl (by simp [ho9]) hI rfl rfl rfl fun tm hS => ?_
 clear hI
 refine c_reg fun R hR => ?_
 refine o_pure hS (.inl rfl) rfl rfl ?_; clear hS; try clear tm
 intro tm hS
 refine o_nil (hR _ _ ?_)
 clear hR R
 refine c_reg fun R hR => ?_
 obtain ⟨r1, hx1, h0⟩ := bindS h0
 refine o_call hS (.inl rfl) rfl (fun wm' hw1 hw2 => wk26  str_255   (hS.sel hw2) hx1) (fun wm' res H hw' hp => ?_)
 obtain ⟨v1, v2, hres, hI⟩ := hp
 replace hres := hres.symm; subst hres
 replace hS : S wm 125 _ H ((10, .agg #[.bool r1.Char, v1, v2]) :: _) ([.own (rI .i64) v1 r1.Shape, .own (rI .i64) v2 r1.Data] ++ _) Fr := hS.after rfl hw' hI
 clear hI hw'
 refine o_alloc hS (.inl rfl) rfl Fz25 (by decide) ?_; clear hS; try clear tm H
 intro b1 tm H hS
 refine o_st (k := 0) hS (.inl rfl) rfl rfl rfl Fs25 rfl rfl (all_cons rfl (all_cons (hS.one (k := 1) rfl (.inr (.inl rfl))) (all_cons (hS.one (k := 2) rfl (.inr (.inl rfl))) all_nil))) rfl ?_; clear hS; try clear H
 intro H hS
 refine o_nil (hR _ _ ?_)
 clear hR R
 refine c_reg fun R hR => ?_
 obtain ⟨r2, hx2, h0⟩ := bindS h0
 refine o_call hS (.inl rfl) rfl (fun wm' hw1 hw2 => wk36  ([])  (.slice none 0 0) ((hS.sel hw2).adNil (rI .i64)) hx2) (fun wm' res H hw' hp => ?_)
 obtain ⟨v3, v4, hres, hI⟩ := hp
 replace hres := hres.symm; subst hres
 replace hS : S wm 125 _ H ((12, .agg #[.bool r2.Char, v3, v4]) :: _) ([.own (rI .i64) v3 r2.Shape, .own (rI .i64) v4 r2.Data] ++ _) Fr := hS.after rfl hw' hI
 clear hI hw'
 obtain ⟨⟨r3, r4⟩, hx3, h0⟩ := bindS h0
 refine o_call (Pc := fun _ res H => res = .tuple #[.int .i64 r3, .bool r4] ∧ Kn wm H ([.own (rI .i64) v3 r2.Shape, .own (rI .i64) v4 r2.Data, .box b1 [.bool r1.Char, v1, v2], .own (rI .i64) v1 r1.Shape, .own (rI .i64) v2 r1.Data]) Fr) hS (.inl rfl) rfl (fun wm' hw1 hw2 => by
  obtain ⟨F2, kk_1, kk_2⟩ := hS.inv.lend (La := [.fz (rI .i64) v3 r2.Shape, .fz (rI .i64) v4 r2.Data]) (List.forall_mem_cons.mpr ⟨(.inr ⟨_, _, _, _, rfl, .inl (List.mem_of_getElem? (i := 0) rfl)⟩), (List.forall_mem_cons.mpr ⟨(.inr ⟨_, _, _, _, rfl, .inl (List.mem_of_getElem? (i := 1) rfl)⟩), (fun _ h => by cases h)⟩)⟩) hw1 hw2
  exact (wk33  r2  v3 v4 kk_1 hx3).mono fun res H2 ⟨qq_1, qq_2⟩ => ⟨qq_1, kk_2 _ qq_2⟩) (fun wm' res H hw' hp => ?_)
 obtain ⟨hres, hI⟩ := hp
 replace hres := hres.symm; subst hres
 replace hS : S wm 125 _ H ((13, .tuple #[.int .i64 r3, .bool r4]) :: _) ([.own (rI .i64) v3 r2.Shape, .own (rI .i64) v4 r2.Data, .box b1 [.bool r1.Char, v1, v2], .own (rI .i64) v1 r1.Shape, .own (rI .i64) v2 r1.Data]) Fr := (hS.put rfl _).withK hI
 clear hI hw'
 refine o_pure hS (.inl rfl) rfl rfl ?_; clear hS; try clear tm
 intro tm hS
 refine o_pure hS (.inl rfl) rfl rfl ?_; clear hS; try clear tm
 intro tm hS
 refine o_pure hS (.inl rfl) rfl rfl ?_; clear hS; try clear tm
 intro tm hS
 refine o_pure hS (.inl rfl) rfl rfl ?_; clear hS; try clear tm
 intro tm hS
 refine o_pure hS (.inl rfl) rfl rfl ?_; clear hS; try clear tm
 intro tm hS
 refine o_nil (hR _ _ ?_)
 clear hR R
 refine c_reg fun R hR => ?_
 obtain ⟨r5, hx4, h0⟩ := bindS h0
 refine o_call hS (.inl rfl) rfl (fun wm' hw1 hw2 => wk26  str_97   (hS.sel hw2) hx4) (fun wm' res H hw' hp => ?_)
 obtain ⟨v5, v6, hres, hI⟩ := hp
 replace hres := hres.symm; subst hres
 replace hS : S wm 125 _ H ((17, .agg #[.bool r5.Char, v5, v6]) :: _) ([.own (rI .i64) v5 r5.Shape, .own (rI .i64) v6 r5.Data] ++ _) Fr := hS.after rfl hw' hI
 clear hI hw'
 obtain ⟨⟨r6, r7⟩, hx5, h0⟩ := bindS h0
 refine o_call (Pc := fun _ res H => res = .tuple #[.int .i64 r6, .bool r7] ∧ Kn wm H ([.own (rI .i64) v5 r5.Shape, .own (rI .i64) v6 r5.Data, .own (rI .i64) v3 r2.Shape, .own (rI .i64) v4 r2.Data, .box b1 [.bool r1.Char, v1, v2], .own (rI .i64) v1 r1.Shape, .own (rI .i64) v2 r1.Data]) Fr) hS (.inl rfl) rfl (fun wm' hw1 hw2 => by
  obtain ⟨F2, kk_1, kk_2⟩ := hS.inv.lend (La := [.fz (rI .i64) v5 r5.Shape, .fz (rI .i64) v6 r5.Data]) (List.forall_mem_cons.mpr ⟨(.inr ⟨_, _, _, _, rfl, .inl (List.mem_of_getElem? (i := 0) rfl)⟩), (List.forall_mem_cons.mpr ⟨(.inr ⟨_, _, _, _, rfl, .inl (List.mem_of_getElem? (i := 1) rfl)⟩), (fun _ h => by cases h)⟩)⟩) hw1 hw2
  exact (wk33  r5  v5 v6 kk_1 hx5).mono fun res H2 ⟨qq_1, qq_2⟩ => ⟨qq_1, kk_2 _ qq_2⟩) (fun wm' res H hw' hp => ?_)
 obtain ⟨hres, hI⟩ := hp
 replace hres := hres.symm; subst hres
 replace hS : S wm 125 _ H ((18, .tuple #[.int .i64 r6, .bool r7]) :: _) ([.own (rI .i64) v5 r5.Shape, .own (rI .i64) v6 r5.Data, .own (rI .i64) v3 r2.Shape, .own (rI .i64) v4 r2.Data, .box b1 [.bool r1.Char, v1, v2], .own (rI .i64) v1 r1.Shape, .own (rI .i64) v2 r1.Data]) Fr := (hS.put rfl _).withK hI
 clear hI hw'
 refine o_pure hS (.inl rfl) rfl rfl ?_; clear hS; try clear tm
 intro tm hS
 refine o_pure hS (.inl rfl) rfl rfl ?_; clear hS; try clear tm
 intro tm hS
 refine o_pure hS (.inl rfl) rfl rfl ?_; clear hS; try clear tm
 intro tm hS
 refine o_pure hS (.inl rfl) rfl rfl ?_; clear hS; try clear tm
 intro tm hS
 refine o_pure hS (.inl rfl) rfl rfl ?_; clear hS; try clear tm
 intro tm hS
 refine o_nil (hR _ _ ?_)
 clear hR R
 refine c_reg fun R hR => ?_
 obtain ⟨r8, hx6, h0⟩ := bindS h0
 refine o_call hS (.inl rfl) rfl (fun wm' hw1 hw2 => wk37  (-3)   (hS.sel hw2) hx6) (fun wm' res H hw' hp => ?_)
 obtain ⟨v7, v8, hres, hI⟩ := hp
 replace hres := hres.symm; subst hres
 replace hS : S wm 125 _ H ((22, .agg #[.bool r8.Char, v7, v8]) :: _) ([.own (rI .i64) v7 r8.Shape, .own (rI .i64) v8 r8.Data] ++ _) Fr := hS.after rfl hw' hI
 clear hI hw'
 obtain ⟨⟨r9, r10⟩, hx7, h0⟩ := bindS h0
 refine o_call (Pc := fun _ res H => res = .tuple #[.int .i64 r9, .bool r10] ∧ Kn wm H ([.own (rI .i64) v7 r8.Shape, .own (rI .i64) v8 r8.Data, .own (rI .i64) v5 r5.Shape, .own (rI .i64) v6 r5.Data, .own (rI .i64) v3 r2.Shape, .own (rI .i64) v4 r2.Data, .box b1 [.bool r1.Char, v1, v2], .own (rI .i64) v1 r1.Shape, .own (rI .i64) v2 r1.Data]) Fr) hS (.inl rfl) rfl (fun wm' hw1 hw2 => by
  obtain ⟨F2, kk_1, kk_2⟩ := hS.inv.lend (La := [.fz (rI .i64) v7 r8.Shape, .fz (rI .i64) v8 r8.Data]) (List.forall_mem_cons.mpr ⟨(.inr ⟨_, _, _, _, rfl, .inl (List.mem_of_getElem? (i := 0) rfl)⟩), (List.forall_mem_cons.mpr ⟨(.inr ⟨_, _, _, _, rfl, .inl (List.mem_of_getElem? (i := 1) rfl)⟩), (fun _ h => by cases h)⟩)⟩) hw1 hw2
  exact (wk33  r8  v7 v8 kk_1 hx7).mono fun res H2 ⟨qq_1, qq_2⟩ => ⟨qq_1, kk_2 _ qq_2⟩) (fun wm' res H hw' hp => ?_)
 obtain ⟨hres, hI⟩ := hp
 replace hres := hres.symm; subst hres
 replace hS : S wm 125 _ H ((23, .tuple #[.int .i64 r9, .bool r10]) :: _) ([.own (rI .i64) v7 r8.Shape, .own (rI .i64) v8 r8.Data, .own (rI .i64) v5 r5.Shape, .own (rI .i64) v6 r5.Data, .own (rI .i64) v3 r2.Shape, .own (rI .i64) v4 r2.Data, .box b1 [.bool r1.Char, v1, v2], .own (rI .i64) v1 r1.Shape, .own (rI .i64) v2 r1.Data]) Fr := (hS.put rfl _).withK hI
 clear hI hw'
 refine o_pure hS (.inl rfl) rfl rfl ?_; clear hS; try clear tm
 intro tm hS
 refine o_pure hS (.inl rfl) rfl rfl ?_; clear hS; try clear tm
 intro tm hS
 refine o_pure hS (.inl rfl) rfl rfl ?_; clear hS; try clear tm
 intro tm hS
 refine o_pure hS (.inl rfl) rfl rfl ?_; clear hS; try clear tm
 intro tm hS
 refine o_pure hS (.inl rfl) rfl rfl ?_; clear hS; try clear tm
 intro tm hS
 refine o_nil (hR _ _ ?_)
 clear hR R
 refine c_reg fun R hR => ?_
 obtain ⟨l1, hx8, h0⟩ := bindS h0
 refine o_mk (r := (rI .u8)) hS (.inl rfl) rfl rfl rfl Fm54 rfl (fun _ => rfl) hx8 ?_; clear hS; try clear tm H
 intro v9 tm H hS
 refine o_bstr (k := 0) hS (.inl rfl) rfl rfl rfl (.inr (.inl rfl)) Fu54 Fu5 Fu9 ?_; clear hS; try clear tm
 intro tm hS
 obtain ⟨r11, hx9, h0⟩ := bindS h0
 refine o_call hS (.inl rfl) rfl (fun wm' hw1 hw2 => wk26  (strOf l1)   (hS.sel hw2) hx9) (fun wm' res H hw' hp => ?_)
 obtain ⟨v10, v11, hres, hI⟩ := hp
 replace hres := hres.symm; subst hres
 replace hS : S wm 125 _ H ((28, .agg #[.bool r11.Char, v10, v11]) :: _) ([.own (rI .i64) v10 r11.Shape, .own (rI .i64) v11 r11.Data] ++ _) Fr := hS.after rfl hw' hI
 clear hI hw'
 refine o_alloc hS (.inl rfl) rfl Fz25 (by decide) ?_; clear hS; try clear tm H
 intro b2 tm H hS
 refine o_st (k := 0) hS (.inl rfl) rfl rfl rfl Fs25 rfl rfl (all_cons rfl (all_cons (hS.one (k := 1) rfl (.inr (.inl rfl))) (all_cons (hS.one (k := 2) rfl (.inr (.inl rfl))) all_nil))) rfl ?_; clear hS; try clear H
 intro H hS
 refine o_nil (hR _ _ ?_)
 clear hR R
 refine c_reg fun R hR => ?_
 obtain ⟨l2, hx10, h0⟩ := bindS h0
 refine o_mk (r := (rI .i64)) hS (.inl rfl) rfl rfl rfl Fm22 rfl (fun _ => rfl) hx10 ?_; clear hS; try clear tm H
 intro v12 tm H hS
 obtain ⟨r12, hx11, h0⟩ := bindS h0
 refine o_call (Pc := fun _ res H => ∃ v13 v14, res = .agg #[.bool r12.Char, v13, v14] ∧ Kn wm H ([.own (rI .i64) v13 r12.Shape, .own (rI .i64) v14 r12.Data] ++ [.own (rI .i64) v12 l2, .box b2 [.bool r11.Char, v10, v11], .own (rI .i64) v10 r11.Shape, .own (rI .i64) v11 r11.Data, .own (rI .u8) v9 l1, .own (rI .i64) v7 r8.Shape, .own (rI .i64) v8 r8.Data, .own (rI .i64) v5 r5.Shape, .own (rI .i64) v6 r5.Data, .own (rI .i64) v3 r2.Shape, .own (rI .i64) v4 r2.Data, .box b1 [.bool r1.Char, v1, v2], .own (rI .i64) v1 r1.Shape, .own (rI .i64) v2 r1.Data]) Fr) hS (.inl rfl) rfl (fun wm' hw1 hw2 => by
  obtain ⟨F2, kk_1, kk_2⟩ := hS.inv.lendR (La := [.fz (rI .i64) v12 l2]) (List.forall_mem_cons.mpr ⟨(.inr ⟨_, _, _, _, rfl, .inl (List.mem_of_getElem? (i := 0) rfl)⟩), (fun _ h => by cases h)⟩) hw1 hw2
  exact (wk36  l2  v12 kk_1 hx11).mono fun res H2 ⟨v13, v14, qq_1, qq_2⟩ => ⟨v13, v14, qq_1, kk_2 _ _ (List.forall_mem_cons.mpr ⟨⟨_, _, _, _, rfl, fun _ _ _ _ h => h⟩, (List.forall_mem_cons.mpr ⟨⟨_, _, _, _, rfl, fun _ _ _ _ h => h⟩, (fun _ h => by cases h)⟩)⟩) qq_2⟩) (fun wm' res H hw' hp => ?_)
 obtain ⟨v13, v14, hres, hI⟩ := hp
 replace hres := hres.symm; subst hres
 replace hS : S wm 125 _ H ((30, .agg #[.bool r12.Char, v13, v14]) :: _) ([.own (rI .i64) v13 r12.Shape, .own (rI .i64) v14 r12.Data] ++ [.own (rI .i64) v12 l2, .box b2 [.bool r11.Char, v10, v11], .own (rI .i64) v10 r11.Shape, .own (rI .i64) v11 r11.Data, .own (rI .u8) v9 l1, .own (rI .i64) v7 r8.Shape, .own (rI .i64) v8 r8.Data, .own (rI .i64) v5 r5.Shape, .own (rI .i64) v6 r5.Data, .own (rI .i64) v3 r2.Shape, .own (rI .i64) v4 r2.Data, .box b1 [.bool r1.Char, v1, v2], .own (rI .i64) v1 r1.Shape, .own (rI .i64) v2 r1.Data]) Fr := (hS.put rfl _).withK hI
 clear hI hw'
 refine o_alloc hS (.inl rfl) rfl Fz25 (by decide) ?_; clear hS; try clear tm H
 intro b3 tm H hS
 refine o_st (k := 0) hS (.inl rfl) rfl rfl rfl Fs25 rfl rfl (all_cons rfl (all_cons (hS.one (k := 1) rfl (.inr (.inl rfl))) (all_cons (hS.one (k := 2) rfl (.inr (.inl rfl))) all_nil))) rfl ?_; clear hS; try clear H
 intro H hS
 refine o_nil (hR _ _ ?_)
 clear hR R
 refine c_reg fun R hR => ?_
 refine o_pure hS (.inl rfl) rfl rfl ?_; clear hS; try clear tm
 intro tm hS
 refine o_ld1 (k := 14) hS (.inl rfl) rfl rfl rfl (.inl rfl) Fu22 rfl rfl ?_; clear hS; try clear tm
 intro tm hS
 refine o_len (k := 16) (r := (rI .i64)) hS (.inl rfl) rfl rfl rfl (.inr (.inl rfl)) Fu22 rfl ?_; clear hS; try clear tm
 intro tm hS
 refine o_pure hS (.inl rfl) rfl rfl ?_; clear hS; try clear tm
 intro tm hS
 refine o_pure hS (.inl rfl) rfl rfl ?_; clear hS; try clear tm
 intro tm hS
 obtain ⟨c1, hc1, h0⟩ := bindS h0
 refine o_cutN 6 (J := fun tm H => S wm 125 tm H [(41, .bool c1), (3, .bool r4), (5, .bool r7), (6, .int .i64 r9), (7, .bool r10), (8, .pointer (some ⟨b2, 0, none⟩)), (9, .pointer (some ⟨b3, 0, none⟩))] [.box b3 [.bool r12.Char, v13, v14], .own (rI .i64) v13 r12.Shape, .own (rI .i64) v14 r12.Data, .box b2 [.bool r11.Char, v10, v11], .own (rI .i64) v10 r11.Shape, .own (rI .i64) v11 r11.Data] Fr) ?_ ?_
 ·rcases Bool.eq_false_or_eq_true ((r1.Data.length : Int) == 1) with hg1 | hg1
  ·replace hc1 := iteT hg1 hc1
   refine o_pure hS (.inr ⟨_, _, _, _, rfl, rfl, rfl, hg1⟩) rfl rfl ?_; clear hS; try clear tm
   intro tm hS
   refine o_ld1 (k := 14) hS (.inr ⟨_, _, _, _, rfl, rfl, rfl, hg1⟩) rfl rfl rfl (.inl rfl) Fu22 rfl rfl ?_; clear hS; try clear tm
   intro tm hS
   obtain ⟨y1, hx12, hc1⟩ := bindS hc1
   refine o_ixA (k := 16) (r := (rI .i64)) hS (.inr ⟨_, _, _, _, rfl, rfl, rfl, hg1⟩) rfl rfl rfl rfl (.inr (.inl rfl)) Fu22 Fs2 hx12 ?_; clear hS; try clear tm
   intro tm hS
   refine o_ldF (r := (rI .i64)) (k := 16) hS (.inr ⟨_, _, _, _, rfl, rfl, rfl, hg1⟩) rfl rfl rfl (.inr (.inl rfl)) hx12 Fu2 rfl (flat_I _) rfl ?_; clear hS; try clear tm
   intro tm hS
   refine o_pure hS (.inr ⟨_, _, _, _, rfl, rfl, rfl, hg1⟩) rfl rfl ?_; clear hS; try clear tm
   intro tm hS
   refine o_pickT hS (.inl rfl) rfl rfl hg1 rfl ?_; clear hS; try clear tm
   intro tm hS
   obtain rfl := Option.some.inj hc1
   exact o_nil (hS.keep (ka_cons rfl (ka_cons rfl (ka_cons rfl (ka_cons rfl (ka_cons rfl (ka_cons rfl (ka_cons rfl ka_nil))))))) (fun hI => (hI.sub (sc (sc (sc (sd (sc (sc (sc sn))))))))))
  ·replace hc1 := iteF hg1 hc1
   refine o_skip hS rfl rfl rfl hg1 ?_; clear hS; try clear tm
   intro tm hS
   refine o_skip hS rfl rfl rfl hg1 ?_; clear hS; try clear tm
   intro tm hS
   refine o_skip hS rfl rfl rfl hg1 ?_; clear hS; try clear tm
   intro tm hS
   refine o_skip hS rfl rfl rfl hg1 ?_; clear hS; try clear tm
   intro tm hS
   refine o_skip hS rfl rfl rfl hg1 ?_; clear hS; try clear tm
   intro tm hS
   refine o_pickF hS (.inl rfl) rfl rfl hg1 rfl ?_; clear hS; try clear tm
   intro tm hS
   obtain rfl := Option.some.inj hc1
   exact o_nil (hS.keep (ka_cons rfl (ka_cons rfl (ka_cons rfl (ka_cons rfl (ka_cons rfl (ka_cons rfl (ka_cons rfl ka_nil))))))) (fun hI => (hI.sub (sc (sc (sc (sd (sc (sc (sc sn))))))))))
 intro tm H hS
 refine o_pure hS (.inl rfl) rfl rfl ?_; clear hS; try clear tm
 intro tm hS
 obtain ⟨c2, hc2⟩ : ∃ x : Bool, x = (c1 && (!r4)) := ⟨_, rfl⟩
 refine o_cutN 3 (J := fun tm H => S wm 125 tm H [(45, .bool c2), (5, .bool r7), (6, .int .i64 r9), (7, .bool r10), (8, .pointer (some ⟨b2, 0, none⟩)), (9, .pointer (some ⟨b3, 0, none⟩))] [.box b3 [.bool r12.Char, v13, v14], .own (rI .i64) v13 r12.Shape, .own (rI .i64) v14 r12.Data, .box b2 [.bool r11.Char, v10, v11], .own (rI .i64) v10 r11.Shape, .own (rI .i64) v11 r11.Data] Fr) ?_ ?_
 ·rcases Bool.eq_false_or_eq_true c1 with hg2 | hg2
  ·refine o_pure hS (.inr ⟨_, _, _, _, rfl, rfl, rfl, hg2⟩) rfl rfl ?_; clear hS; try clear tm
   intro tm hS
   refine o_pure hS (.inr ⟨_, _, _, _, rfl, rfl, rfl, hg2⟩) rfl rfl ?_; clear hS; try clear tm
   intro tm hS
   refine o_pickT hS (.inl rfl) rfl rfl hg2 rfl ?_; clear hS; try clear tm
   intro tm hS
   have hc2 : c2 = (!r4) := hc2.trans (by rw [hg2]; first | rfl | simp)
   subst hc2
   exact o_nil (hS.keep (ka_cons rfl (ka_cons rfl (ka_cons rfl (ka_cons rfl (ka_cons rfl (ka_cons rfl ka_nil)))))) (fun hI => (hI.sub (sc (sc (sc (sc (sc (sc sn)))))))))
  ·refine o_skip hS rfl rfl rfl hg2 ?_; clear hS; try clear tm
   intro tm hS
   refine o_skip hS rfl rfl rfl hg2 ?_; clear hS; try clear tm
   intro tm hS
   refine o_pickF hS (.inl rfl) rfl rfl hg2 rfl ?_; clear hS; try clear tm
   intro tm hS
   have hc2 : c2 = false := hc2.trans (by rw [hg2]; first | rfl | simp)
   subst hc2
   exact o_nil (hS.keep (ka_cons rfl (ka_cons rfl (ka_cons rfl (ka_cons rfl (ka_cons rfl (ka_cons rfl ka_nil)))))) (fun hI => (hI.sub (sc (sc (sc (sc (sc (sc sn)))))))))
 intro tm H hS
 subst hc2
 refine o_pure hS (.inl rfl) rfl rfl ?_; clear hS; try clear tm
 intro tm hS
 obtain ⟨c3, hc3⟩ : ∃ x : Bool, x = ((c1 && (!r4)) && (!r7)) := ⟨_, rfl⟩
 refine o_cutN 3 (J := fun tm H => S wm 125 tm H [(49, .bool c3), (6, .int .i64 r9), (7, .bool r10), (8, .pointer (some ⟨b2, 0, none⟩)), (9, .pointer (some ⟨b3, 0, none⟩))] [.box b3 [.bool r12.Char, v13, v14], .own (rI .i64) v13 r12.Shape, .own (rI .i64) v14 r12.Data, .box b2 [.bool r11.Char, v10, v11], .own (rI .i64) v10 r11.Shape, .own (rI .i64) v11 r11.Data] Fr) ?_ ?_
 ·rcases Bool.eq_false_or_eq_true (c1 && (!r4)) with hg3 | hg3
  ·refine o_pure hS (.inr ⟨_, _, _, _, rfl, rfl, rfl, hg3⟩) rfl rfl ?_; clear hS; try clear tm
   intro tm hS
   refine o_pure hS (.inr ⟨_, _, _, _, rfl, rfl, rfl, hg3⟩) rfl rfl ?_; clear hS; try clear tm
   intro tm hS
   refine o_pickT hS (.inl rfl) rfl rfl hg3 rfl ?_; clear hS; try clear tm
   intro tm hS
   have hc3 : c3 = (!r7) := hc3.trans (by rw [hg3]; first | rfl | simp)
   subst hc3
   exact o_nil (hS.keep (ka_cons rfl (ka_cons rfl (ka_cons rfl (ka_cons rfl (ka_cons rfl ka_nil))))) (fun hI => (hI.sub (sc (sc (sc (sc (sc (sc sn)))))))))
  ·refine o_skip hS rfl rfl rfl hg3 ?_; clear hS; try clear tm
   intro tm hS
   refine o_skip hS rfl rfl rfl hg3 ?_; clear hS; try clear tm
   intro tm hS
   refine o_pickF hS (.inl rfl) rfl rfl hg3 rfl ?_; clear hS; try clear tm
   intro tm hS
   have hc3 : c3 = false := hc3.trans (by rw [hg3]; first | rfl | simp)
   subst hc3
   exact o_nil (hS.keep (ka_cons rfl (ka_cons rfl (ka_cons rfl (ka_cons rfl (ka_cons rfl ka_nil))))) (fun hI => (hI.sub (sc (sc (sc (sc (sc (sc sn)))))))))
 intro tm H hS
 subst hc3
 refine o_pure hS (.inl rfl) rfl rfl ?_; clear hS; try clear tm
 intro tm hS
 obtain ⟨c4, hc4⟩ : ∃ x : Bool, x = (((c1 && (!r4)) && (!r7)) && (r9 == (-3))) := ⟨_, rfl⟩
 refine o_cutN 3 (J := fun tm H => S wm 125 tm H [(53, .bool c4), (7, .bool r10), (8, .pointer (some ⟨b2, 0, none⟩)), (9, .pointer (some ⟨b3, 0, none⟩))] [.box b3 [.bool r12.Char, v13, v14], .own (rI .i64) v13 r12.Shape, .own (rI .i64) v14 r12.Data, .box b2 [.bool r11.Char, v10, v11], .own (rI .i64) v10 r11.Shape, .own (rI .i64) v11 r11.Data] Fr) ?_ ?_
 ·rcases Bool.eq_false_or_eq_true ((c1 && (!r4)) && (!r7)) with hg4 | hg4
  ·refine o_pure hS (.inr ⟨_, _, _, _, rfl, rfl, rfl, hg4⟩) rfl rfl ?_; clear hS; try clear tm
   intro tm hS
   refine o_pure hS (.inr ⟨_, _, _, _, rfl, rfl, rfl, hg4⟩) rfl rfl ?_; clear hS; try clear tm
   intro tm hS
   refine o_pickT hS (.inl rfl) rfl rfl hg4 rfl ?_; clear hS; try clear tm
   intro tm hS
   have hc4 : c4 = (r9 == (-3)) := hc4.trans (by rw [hg4]; first | rfl | simp)
   subst hc4
   exact o_nil (hS.keep (ka_cons rfl (ka_cons rfl (ka_cons rfl (ka_cons rfl ka_nil)))) (fun hI => (hI.sub (sc (sc (sc (sc (sc (sc sn)))))))))
  ·refine o_skip hS rfl rfl rfl hg4 ?_; clear hS; try clear tm
   intro tm hS
   refine o_skip hS rfl rfl rfl hg4 ?_; clear hS; try clear tm
   intro tm hS
   refine o_pickF hS (.inl rfl) rfl rfl hg4 rfl ?_; clear hS; try clear tm
   intro tm hS
   have hc4 : c4 = false := hc4.trans (by rw [hg4]; first | rfl | simp)
   subst hc4
   exact o_nil (hS.keep (ka_cons rfl (ka_cons rfl (ka_cons rfl (ka_cons rfl ka_nil)))) (fun hI => (hI.sub (sc (sc (sc (sc (sc (sc sn)))))))))
 intro tm H hS
 subst hc4
 refine o_pure hS (.inl rfl) rfl rfl ?_; clear hS; try clear tm
 intro tm hS
 obtain ⟨c5, hc5⟩ : ∃ x : Bool, x = ((((c1 && (!r4)) && (!r7)) && (r9 == (-3))) && r10) := ⟨_, rfl⟩
 refine o_cutN 2 (J := fun tm H => S wm 125 tm H [(56, .bool c5), (8, .pointer (some ⟨b2, 0, none⟩)), (9, .pointer (some ⟨b3, 0, none⟩))] [.box b3 [.bool r12.Char, v13, v14], .own (rI .i64) v13 r12.Shape, .own (rI .i64) v14 r12.Data, .box b2 [.bool r11.Char, v10, v11], .own (rI .i64) v10 r11.Shape, .own (rI .i64) v11 r11.Data] Fr) ?_ ?_
 ·rcases Bool.eq_false_or_eq_true (((c1 && (!r4)) && (!r7)) && (r9 == (-3))) with hg5 | hg5
  ·refine o_pure hS (.inr ⟨_, _, _, _, rfl, rfl, rfl, hg5⟩) rfl rfl ?_; clear hS; try clear tm
   intro tm hS
   refine o_pickT hS (.inl rfl) rfl rfl hg5 rfl ?_; clear hS; try clear tm
   intro tm hS
   have hc5 : c5 = r10 := hc5.trans (by rw [hg5]; first | rfl | simp)
   subst hc5
   exact o_nil (hS.keep (ka_cons rfl (ka_cons rfl (ka_cons rfl ka_nil))) (fun hI => (hI.sub (sc (sc (sc (sc (sc (sc sn)))))))))
  ·refine o_skip hS rfl rfl rfl hg5 ?_; clear hS; try clear tm
   intro tm hS
   refine o_pickF hS (.inl rfl) rfl rfl hg5 rfl ?_; clear hS; try clear tm
   intro tm hS
   have hc5 : c5 = false := hc5.trans (by rw [hg5]; first | rfl | simp)
   subst hc5
   exact o_nil (hS.keep (ka_cons rfl (ka_cons rfl (ka_cons rfl ka_nil))) (fun hI => (hI.sub (sc (sc (sc (sc (sc (sc sn)))))))))
 intro tm H hS
 subst hc5
 refine o_pure hS (.inl rfl) rfl rfl ?_; clear hS; try clear tm
 intro tm hS
 obtain ⟨c6, hc6⟩ : ∃ x : Bool, x = (((((c1 && (!r4)) && (!r7)) && (r9 == (-3))) && r10) && ((r11.Data.length : Int) == 10000)) := ⟨_, rfl⟩
 refine o_cutN 5 (J := fun tm H => S wm 125 tm H [(62, .bool c6), (8, .pointer (some ⟨b2, 0, none⟩)), (9, .pointer (some ⟨b3, 0, none⟩))] [.box b3 [.bool r12.Char, v13, v14], .own (rI .i64) v13 r12.Shape, .own (rI .i64) v14 r12.Data, .box b2 [.bool r11.Char, v10, v11], .own (rI .i64) v10 r11.Shape, .own (rI .i64) v11 r11.Data] Fr) ?_ ?_
 ·rcases Bool.eq_false_or_eq_true ((((c1 && (!r4)) && (!r7)) && (r9 == (-3))) && r10) with hg6 | hg6
  ·refine o_pure hS (.inr ⟨_, _, _, _, rfl, rfl, rfl, hg6⟩) rfl rfl ?_; clear hS; try clear tm
   intro tm hS
   refine o_ld1 (k := 3) hS (.inr ⟨_, _, _, _, rfl, rfl, rfl, hg6⟩) rfl rfl rfl (.inl rfl) Fu22 rfl rfl ?_; clear hS; try clear tm
   intro tm hS
   refine o_len (k := 5) (r := (rI .i64)) hS (.inr ⟨_, _, _, _, rfl, rfl, rfl, hg6⟩) rfl rfl rfl (.inr (.inl rfl)) Fu22 rfl ?_; clear hS; try clear tm
   intro tm hS
   refine o_pure hS (.inr ⟨_, _, _, _, rfl, rfl, rfl, hg6⟩) rfl rfl ?_; clear hS; try clear tm
   intro tm hS
   refine o_pickT hS (.inl rfl) rfl rfl hg6 rfl ?_; clear hS; try clear tm
   intro tm hS
   have hc6 : c6 = ((r11.Data.length : Int) == 10000) := hc6.trans (by rw [hg6]; first | rfl | simp)
   subst hc6
   exact o_nil (hS.keep (ka_cons rfl (ka_cons rfl (ka_cons rfl ka_nil))) (fun hI => (hI.sub (sc (sc (sc (sc (sc (sc sn)))))))))
  ·refine o_skip hS rfl rfl rfl hg6 ?_; clear hS; try clear tm
   intro tm hS
   refine o_skip hS rfl rfl rfl hg6 ?_; clear hS; try clear tm
   intro tm hS
   refine o_skip hS rfl rfl rfl hg6 ?_; clear hS; try clear tm
   intro tm hS
   refine o_skip hS rfl rfl rfl hg6 ?_; clear hS; try clear tm
   intro tm hS
   refine o_pickF hS (.inl rfl) rfl rfl hg6 rfl ?_; clear hS; try clear tm
   intro tm hS
   have hc6 : c6 = false := hc6.trans (by rw [hg6]; first | rfl | simp)
   subst hc6
   exact o_nil (hS.keep (ka_cons rfl (ka_cons rfl (ka_cons rfl ka_nil))) (fun hI => (hI.sub (sc (sc (sc (sc (sc (sc sn)))))))))
 intro tm H hS
 subst hc6
 refine o_pure hS (.inl rfl) rfl rfl ?_; clear hS; try clear tm
 intro tm hS
 obtain ⟨c7, hc7, h0⟩ := bindS h0
 refine o_cutN 6 (J := fun tm H => S wm 125 tm H [(69, .bool c7), (9, .pointer (some ⟨b3, 0, none⟩))] [.box b3 [.bool r12.Char, v13, v14], .own (rI .i64) v13 r12.Shape, .own (rI .i64) v14 r12.Data] Fr) ?_ ?_
 ·rcases Bool.eq_false_or_eq_true (((((c1 && (!r4)) && (!r7)) && (r9 == (-3))) && r10) && ((r11.Data.length : Int) == 10000)) with hg7 | hg7
  ·replace hc7 := iteT hg7 hc7
   refine o_pure hS (.inr ⟨_, _, _, _, rfl, rfl, rfl, hg7⟩) rfl rfl ?_; clear hS; try clear tm
   intro tm hS
   refine o_ld1 (k := 3) hS (.inr ⟨_, _, _, _, rfl, rfl, rfl, hg7⟩) rfl rfl rfl (.inl rfl) Fu23 rfl rfl ?_; clear hS; try clear tm
   intro tm hS
   obtain ⟨y2, hx13, hc7⟩ := bindS hc7
   refine o_ixA (k := 4) (r := (rI .i64)) hS (.inr ⟨_, _, _, _, rfl, rfl, rfl, hg7⟩) rfl rfl rfl rfl (.inr (.inl rfl)) Fu23 Fs3 hx13 ?_; clear hS; try clear tm
   intro tm hS
   refine o_ldF (r := (rI .i64)) (k := 4) hS (.inr ⟨_, _, _, _, rfl, rfl, rfl, hg7⟩) rfl rfl rfl (.inr (.inl rfl)) hx13 Fu3 rfl (flat_I _) rfl ?_; clear hS; try clear tm
   intro tm hS
   refine o_pure hS (.inr ⟨_, _, _, _, rfl, rfl, rfl, hg7⟩) rfl rfl ?_; clear hS; try clear tm
   intro tm hS
   refine o_pickT hS (.inl rfl) rfl rfl hg7 rfl ?_; clear hS; try clear tm
   intro tm hS
   obtain rfl := Option.some.inj hc7
   exact o_nil (hS.keep (ka_cons rfl (ka_cons rfl ka_nil)) (fun hI => (hI.sub (sc (sc (sc sn))))))
  ·replace hc7 := iteF hg7 hc7
   refine o_skip hS rfl rfl rfl hg7 ?_; clear hS; try clear tm
   intro tm hS
   refine o_skip hS rfl rfl rfl hg7 ?_; clear hS; try clear tm
   intro tm hS
   refine o_skip hS rfl rfl rfl hg7 ?_; clear hS; try clear tm
   intro tm hS
   refine o_skip hS rfl rfl rfl hg7 ?_; clear hS; try clear tm
   intro tm hS
   refine o_skip hS rfl rfl rfl hg7 ?_; clear hS; try clear tm
   intro tm hS
   refine o_pickF hS (.inl rfl) rfl rfl hg7 rfl ?_; clear hS; try clear tm
   intro tm hS
   obtain rfl := Option.some.inj hc7
   exact o_nil (hS.keep (ka_cons rfl (ka_cons rfl ka_nil)) (fun hI => (hI.sub (sc (sc (sc sn))))))
 intro tm H hS
 refine o_pure hS (.inl rfl) rfl rfl ?_; clear hS; try clear tm
 intro tm hS
 obtain ⟨c8, hc8⟩ : ∃ x : Bool, x = (c7 && ((r12.Data.length : Int) == 10000)) := ⟨_, rfl⟩
 refine o_cutN 5 (J := fun tm H => S wm 125 tm H [(75, .bool c8)] [] Fr) ?_ ?_
 ·rcases Bool.eq_false_or_eq_true c7 with hg8 | hg8
  ·refine o_pure hS (.inr ⟨_, _, _, _, rfl, rfl, rfl, hg8⟩) rfl rfl ?_; clear hS; try clear tm
   intro tm hS
   refine o_ld1 (k := 0) hS (.inr ⟨_, _, _, _, rfl, rfl, rfl, hg8⟩) rfl rfl rfl (.inl rfl) Fu22 rfl rfl ?_; clear hS; try clear tm
   intro tm hS
   refine o_len (k := 2) (r := (rI .i64)) hS (.inr ⟨_, _, _, _, rfl, rfl, rfl, hg8⟩) rfl rfl rfl (.inr (.inl rfl)) Fu22 rfl ?_; clear hS; try clear tm
   intro tm hS
   refine o_pure hS (.inr ⟨_, _, _, _, rfl, rfl, rfl, hg8⟩) rfl rfl ?_; clear hS; try clear tm
   intro tm hS
   refine o_pickT hS (.inl rfl) rfl rfl hg8 rfl ?_; clear hS; try clear tm
   intro tm hS
   have hc8 : c8 = ((r12.Data.length : Int) == 10000) := hc8.trans (by rw [hg8]; first | rfl | simp)
   subst hc8
   exact o_nil (hS.keep (ka_cons rfl ka_nil) (fun hI => (hI.sub sn)))
  ·refine o_skip hS rfl rfl rfl hg8 ?_; clear hS; try clear tm
   intro tm hS
   refine o_skip hS rfl rfl rfl hg8 ?_; clear hS; try clear tm
   intro tm hS
   refine o_skip hS rfl rfl rfl hg8 ?_; clear hS; try clear tm
   intro tm hS
   refine o_skip hS rfl rfl rfl hg8 ?_; clear hS; try clear tm
   intro tm hS
   refine o_pickF hS (.inl rfl) rfl rfl hg8 rfl ?_; clear hS; try clear tm
   intro tm hS
   have hc8 : c8 = false := hc8.trans (by rw [hg8]; first | rfl | simp)
   subst hc8
   exact o_nil (hS.keep (ka_cons rfl ka_nil) (fun hI => (hI.sub sn)))
 intro tm H hS
 subst hc8
 refine o_pure hS (.inl rfl) rfl rfl ?_; clear hS; try clear tm
 intro tm hS
 obtain ⟨c9, hc9, h0⟩ := bindS h0
 refine o_cutN 4 (J := fun tm H => S wm 125 tm H [(80, .bool c9)] [] Fr) ?_ ?_
 ·rcases Bool.eq_false_or_eq_true (c7 && ((r12.Data.length : Int) == 10000)) with hg9 | hg9
  ·replace hc9 := iteT hg9 hc9
   refine o_lit (r := (rI .i64)) (l := [0, 10000]) hS (.inr ⟨_, _, _, _, rfl, rfl, rfl, hg9⟩) rfl Fl23 rfl rfl rfl (.cons rfl (.cons rfl .nil)) rfl rfl (ri_1 (rd_flat fun _ => rfl) (ri_1 (rd_flat fun _ => rfl) ri_nil)) rfl ?_; clear hS; try clear tm H
   intro v15 tm H hS
   refine o_build hS (.inr ⟨_, _, _, _, rfl, rfl, rfl, hg9⟩) rfl Fb25 rfl (.cons (cells_one (hS.one (k := 0) rfl (.inr (.inr rfl)))) .nil) rfl ?_; clear hS; try clear tm
   intro tm hS
   replace hS := hS.litFrz (k := 0) rfl
   obtain ⟨r13, hx14, hc9⟩ := bindS hc9
   refine o_call hS (.inr ⟨_, _, _, _, rfl, rfl, rfl, hg9⟩) rfl (fun wm' hw1 hw2 => wk30  (Val.mk false ([0, 10000]) ([]))  v15 (.slice none 0 0) (((hS.sel hw2).adNil (rI .i64)).ad 0 rfl) hx14) (fun wm' res H hw' hp => ?_)
   obtain ⟨hres, hI⟩ := hp
   replace hres := hres.symm; subst hres
   replace hS : S wm 125 _ H ((79, .bool r13) :: _) ([] ++ _) Fr := hS.after rfl hw' hI
   clear hI hw'
   refine o_pickT hS (.inl rfl) rfl rfl hg9 rfl ?_; clear hS; try clear tm
   intro tm hS
   obtain rfl := Option.some.inj hc9
   exact o_nil (hS.keep (ka_cons rfl ka_nil) (fun hI => (hI.sub sn)))
  ·replace hc9 := iteF hg9 hc9
   refine o_skip hS rfl rfl rfl hg9 ?_; clear hS; try clear tm
   intro tm hS
   refine o_skip hS rfl rfl rfl hg9 ?_; clear hS; try clear tm
   intro tm hS
   refine o_skip hS rfl rfl rfl hg9 ?_; clear hS; try clear tm
   intro tm hS
   refine o_pickF hS (.inl rfl) rfl rfl hg9 rfl ?_; clear hS; try clear tm
   intro tm hS
   obtain rfl := Option.some.inj hc9
   exact o_nil (hS.keep (ka_cons rfl ka_nil) (fun hI => (hI.sub sn)))
 intro tm H hS
 refine o_pure hS (.inl rfl) rfl rfl ?_; clear hS; try clear tm
 intro tm hS
 obtain ⟨c10, hc10, h0⟩ := bindS h0
 refine o_cutN 5 (J := fun tm H => S wm 125 tm H [(86, .bool c10)] [] Fr) ?_ ?_
 ·rcases Bool.eq_false_or_eq_true c9 with hg10 | hg10
  ·replace hc10 := iteT hg10 hc10
   refine o_lit (r := (rI .i64)) (l := [0, 10001]) hS (.inr ⟨_, _, _, _, rfl, rfl, rfl, hg10⟩) rfl Fl23 rfl rfl rfl (.cons rfl (.cons rfl .nil)) rfl rfl (ri_1 (rd_flat fun _ => rfl) (ri_1 (rd_flat fun _ => rfl) ri_nil)) rfl ?_; clear hS; try clear tm H
   intro v16 tm H hS
   refine o_build hS (.inr ⟨_, _, _, _, rfl, rfl, rfl, hg10⟩) rfl Fb25 rfl (.cons (cells_one (hS.one (k := 0) rfl (.inr (.inr rfl)))) .nil) rfl ?_; clear hS; try clear tm
   intro tm hS
   replace hS := hS.litFrz (k := 0) rfl
   obtain ⟨r14, hx15, hc10⟩ := bindS hc10
   refine o_call hS (.inr ⟨_, _, _, _, rfl, rfl, rfl, hg10⟩) rfl (fun wm' hw1 hw2 => wk30  (Val.mk false ([0, 10001]) ([]))  v16 (.slice none 0 0) (((hS.sel hw2).adNil (rI .i64)).ad 0 rfl) hx15) (fun wm' res H hw' hp => ?_)
   obtain ⟨hres, hI⟩ := hp
   replace hres := hres.symm; subst hres
   replace hS : S wm 125 _ H ((84, .bool r14) :: _) ([] ++ _) Fr := hS.after rfl hw' hI
   clear hI hw'
   refine o_pure hS (.inr ⟨_, _, _, _, rfl, rfl, rfl, hg10⟩) rfl rfl ?_; clear hS; try clear tm
   intro tm hS
   refine o_pickT hS (.inl rfl) rfl rfl hg10 rfl ?_; clear hS; try clear tm
   intro tm hS
   obtain rfl := Option.some.inj hc10
   exact o_nil (hS.keep (ka_cons rfl ka_nil) (fun hI => (hI.sub sn)))
  ·replace hc10 := iteF hg10 hc10
   refine o_skip hS rfl rfl rfl hg10 ?_; clear hS; try clear tm
   intro tm hS
   refine o_skip hS rfl rfl rfl hg10 ?_; clear hS; try clear tm
   intro tm hS
   refine o_skip hS rfl rfl rfl hg10 ?_; clear hS; try clear tm
   intro tm hS
   refine o_skip hS rfl rfl rfl hg10 ?_; clear hS; try clear tm
   intro tm hS
   refine o_pickF hS (.inl rfl) rfl rfl hg10 rfl ?_; clear hS; try clear tm
   intro tm hS
   obtain rfl := Option.some.inj hc10
   exact o_nil (hS.keep (ka_cons rfl ka_nil) (fun hI => (hI.sub sn)))
 intro tm H hS
 refine o_pure hS (.inl rfl) rfl rfl ?_; clear hS; try clear tm
 intro tm hS
 obtain ⟨c11, hc11, h0⟩ := bindS h0
 refine o_cutN 6 (J := fun tm H => S wm 125 tm H [(93, .bool c11)] [] Fr) ?_ ?_
 ·rcases Bool.eq_false_or_eq_true c10 with hg11 | hg11
  ·replace hc11 := iteT hg11 hc11
   refine o_lit (r := (rI .i64)) (l := [1, 1, 1, 1, 1]) hS (.inr ⟨_, _, _, _, rfl, rfl, rfl, hg11⟩) rfl Fl23 rfl rfl rfl (.cons rfl (.cons rfl (.cons rfl (.cons rfl (.cons rfl .nil))))) rfl rfl (ri_1 (rd_flat fun _ => rfl) (ri_1 (rd_flat fun _ => rfl) (ri_1 (rd_flat fun _ => rfl) (ri_1 (rd_flat fun _ => rfl) (ri_1 (rd_flat fun _ => rfl) ri_nil))))) rfl ?_; clear hS; try clear tm H
   intro v17 tm H hS
   refine o_lit (r := (rI .i64)) (l := [1]) hS (.inr ⟨_, _, _, _, rfl, rfl, rfl, hg11⟩) rfl Fl22 rfl rfl rfl (.cons rfl .nil) rfl rfl (ri_1 (rd_flat fun _ => rfl) ri_nil) rfl ?_; clear hS; try clear tm H
   intro v18 tm H hS
   refine o_build hS (.inr ⟨_, _, _, _, rfl, rfl, rfl, hg11⟩) rfl Fb25 rfl (.cons (cells_one (hS.one (k := 1) rfl (.inr (.inr rfl)))) (.cons (cells_one (hS.one (k := 0) rfl (.inr (.inr rfl)))) .nil)) rfl ?_; clear hS; try clear tm
   intro tm hS
   obtain ⟨r15, hx16, hc11⟩ := bindS hc11
   refine o_call (Pc := fun _ res H => res = .bool r15 ∧ Kn wm H ([.lit (rI .i64) v18 ([1]), .lit (rI .i64) v17 ([1, 1, 1, 1, 1])]) Fr) hS (.inr ⟨_, _, _, _, rfl, rfl, rfl, hg11⟩) rfl (fun wm' hw1 hw2 => by
    obtain ⟨F2, kk_1, kk_2⟩ := hS.inv.lend (La := [.fz (rI .i64) v17 ([1, 1, 1, 1, 1]), .fz (rI .i64) v18 ([1])]) (List.forall_mem_cons.mpr ⟨(.inr ⟨_, _, _, _, rfl, .inr (List.mem_of_getElem? (i := 1) rfl)⟩), (List.forall_mem_cons.mpr ⟨(.inr ⟨_, _, _, _, rfl, .inr (List.mem_of_getElem? (i := 0) rfl)⟩), (fun _ h => by cases h)⟩)⟩) hw1 hw2
    exact (wk30  (Val.mk false ([1, 1, 1, 1, 1]) ([1]))  v17 v18 kk_1 hx16).mono fun res H2 ⟨qq_1, qq_2⟩ => ⟨qq_1, kk_2 _ qq_2⟩) (fun wm' res H hw' hp => ?_)
   obtain ⟨hres, hI⟩ := hp
   replace hres := hres.symm; subst hres
   replace hS : S wm 125 _ H ((91, .bool r15) :: _) ([.lit (rI .i64) v18 ([1]), .lit (rI .i64) v17 ([1, 1, 1, 1, 1])]) Fr := (hS.put rfl _).withK hI
   clear hI hw'
   refine o_pure hS (.inr ⟨_, _, _, _, rfl, rfl, rfl, hg11⟩) rfl rfl ?_; clear hS; try clear tm
   intro tm hS
   refine o_pickT hS (.inl rfl) rfl rfl hg11 rfl ?_; clear hS; try clear tm
   intro tm hS
   obtain rfl := Option.some.inj hc11
   exact o_nil (hS.keep (ka_cons rfl ka_nil) (fun hI => (hI.sub sn)))
  ·replace hc11 := iteF hg11 hc11
   refine o_skip hS rfl rfl rfl hg11 ?_; clear hS; try clear tm
   intro tm hS
   refine o_skip hS rfl rfl rfl hg11 ?_; clear hS; try clear tm
   intro tm hS
   refine o_skip hS rfl rfl rfl hg11 ?_; clear hS; try clear tm
   intro tm hS
   refine o_skip hS rfl rfl rfl hg11 ?_; clear hS; try clear tm
   intro tm hS
   refine o_skip hS rfl rfl rfl hg11 ?_; clear hS; try clear tm
   intro tm hS
   refine o_pickF hS (.inl rfl) rfl rfl hg11 rfl ?_; clear hS; try clear tm
   intro tm hS
   obtain rfl := Option.some.inj hc11
   exact o_nil (hS.keep (ka_cons rfl ka_nil) (fun hI => (hI.sub sn)))
 intro tm H hS
 refine o_pure hS (.inl rfl) rfl rfl ?_; clear hS; try clear tm
 intro tm hS
 obtain ⟨c12, hc12, h0⟩ := bindS h0
 refine o_cutN 5 (J := fun tm H => S wm 125 tm H [(99, .bool c12)] [] Fr) ?_ ?_
 ·rcases Bool.eq_false_or_eq_true c11 with hg12 | hg12
  ·replace hc12 := iteT hg12 hc12
   refine o_lit (r := (rI .i64)) (l := [55296]) hS (.inr ⟨_, _, _, _, rfl, rfl, rfl, hg12⟩) rfl Fl22 rfl rfl rfl (.cons rfl .nil) rfl rfl (ri_1 (rd_flat fun _ => rfl) ri_nil) rfl ?_; clear hS; try clear tm H
   intro v19 tm H hS
   refine o_build hS (.inr ⟨_, _, _, _, rfl, rfl, rfl, hg12⟩) rfl Fb25 rfl (.cons rfl (.cons (cells_one (hS.one (k := 0) rfl (.inr (.inr rfl)))) .nil)) rfl ?_; clear hS; try clear tm
   intro tm hS
   replace hS := hS.litFrz (k := 0) rfl
   obtain ⟨r16, hx17, hc12⟩ := bindS hc12
   refine o_call hS (.inr ⟨_, _, _, _, rfl, rfl, rfl, hg12⟩) rfl (fun wm' hw1 hw2 => wk30  (Val.mk true ([]) ([55296]))  (.slice none 0 0) v19 (((hS.sel hw2).ad 0 rfl).adNil (rI .i64)) hx17) (fun wm' res H hw' hp => ?_)
   obtain ⟨hres, hI⟩ := hp
   replace hres := hres.symm; subst hres
   replace hS : S wm 125 _ H ((97, .bool r16) :: _) ([] ++ _) Fr := hS.after rfl hw' hI
   clear hI hw'
   refine o_pure hS (.inr ⟨_, _, _, _, rfl, rfl, rfl, hg12⟩) rfl rfl ?_; clear hS; try clear tm
   intro tm hS
   refine o_pickT hS (.inl rfl) rfl rfl hg12 rfl ?_; clear hS; try clear tm
   intro tm hS
   obtain rfl := Option.some.inj hc12
   exact o_nil (hS.keep (ka_cons rfl ka_nil) (fun hI => (hI.sub sn)))
  ·replace hc12 := iteF hg12 hc12
   refine o_skip hS rfl rfl rfl hg12 ?_; clear hS; try clear tm
   intro tm hS
   refine o_skip hS rfl rfl rfl hg12 ?_; clear hS; try clear tm
   intro tm hS
   refine o_skip hS rfl rfl rfl hg12 ?_; clear hS; try clear tm
   intro tm hS
   refine o_skip hS rfl rfl rfl hg12 ?_; clear hS; try clear tm
   intro tm hS
   refine o_pickF hS (.inl rfl) rfl rfl hg12 rfl ?_; clear hS; try clear tm
   intro tm hS
   obtain rfl := Option.some.inj hc12
   exact o_nil (hS.keep (ka_cons rfl ka_nil) (fun hI => (hI.sub sn)))
 intro tm H hS
 refine o_pure hS (.inl rfl) rfl rfl ?_; clear hS; try clear tm
 intro tm hS
 obtain ⟨c13, hc13, h0⟩ := bindS h0
 refine o_cutN 4 (J := fun tm H => S wm 125 tm H [(104, .bool c13)] [] Fr) ?_ ?_
 ·rcases Bool.eq_false_or_eq_true c12 with hg13 | hg13
  ·replace hc13 := iteT hg13 hc13
   refine o_lit (r := (rI .i64)) (l := [1114111]) hS (.inr ⟨_, _, _, _, rfl, rfl, rfl, hg13⟩) rfl Fl22 rfl rfl rfl (.cons rfl .nil) rfl rfl (ri_1 (rd_flat fun _ => rfl) ri_nil) rfl ?_; clear hS; try clear tm H
   intro v20 tm H hS
   refine o_build hS (.inr ⟨_, _, _, _, rfl, rfl, rfl, hg13⟩) rfl Fb25 rfl (.cons rfl (.cons (cells_one (hS.one (k := 0) rfl (.inr (.inr rfl)))) .nil)) rfl ?_; clear hS; try clear tm
   intro tm hS
   replace hS := hS.litFrz (k := 0) rfl
   obtain ⟨r17, hx18, hc13⟩ := bindS hc13
   refine o_call hS (.inr ⟨_, _, _, _, rfl, rfl, rfl, hg13⟩) rfl (fun wm' hw1 hw2 => wk30  (Val.mk true ([]) ([1114111]))  (.slice none 0 0) v20 (((hS.sel hw2).ad 0 rfl).adNil (rI .i64)) hx18) (fun wm' res H hw' hp => ?_)
   obtain ⟨hres, hI⟩ := hp
   replace hres := hres.symm; subst hres
   replace hS : S wm 125 _ H ((103, .bool r17) :: _) ([] ++ _) Fr := hS.after rfl hw' hI
   clear hI hw'
   refine o_pickT hS (.inl rfl) rfl rfl hg13 rfl ?_; clear hS; try clear tm
   intro tm hS
   obtain rfl := Option.some.inj hc13
   exact o_nil (hS.keep (ka_cons rfl ka_nil) (fun hI => (hI.sub sn)))
  ·replace hc13 := iteF hg13 hc13
   refine o_skip hS rfl rfl rfl hg13 ?_; clear hS; try clear tm
   intro tm hS
   refine o_skip hS rfl rfl rfl hg13 ?_; clear hS; try clear tm
   intro tm hS
   refine o_skip hS rfl rfl rfl hg13 ?_; clear hS; try clear tm
   intro tm hS
   refine o_pickF hS (.inl rfl) rfl rfl hg13 rfl ?_; clear hS; try clear tm
   intro tm hS
   obtain rfl := Option.some.inj hc13
   exact o_nil (hS.keep (ka_cons rfl ka_nil) (fun hI => (hI.sub sn)))
 intro tm H hS
 refine o_pure hS (.inl rfl) rfl rfl ?_; clear hS; try clear tm
 intro tm hS
 obtain ⟨c14, hc14, h0⟩ := bindS h0
 refine o_cutN 5 (J := fun tm H => S wm 125 tm H [(110, .bool c14)] [] Fr) ?_ ?_
 ·rcases Bool.eq_false_or_eq_true c13 with hg14 | hg14
  ·replace hc14 := iteT hg14 hc14
   obtain ⟨r18, hx19, hc14⟩ := bindS hc14
   refine o_call hS (.inr ⟨_, _, _, _, rfl, rfl, rfl, hg14⟩) rfl (fun wm' hw1 hw2 => wk36  ([])  (.slice none 0 0) ((hS.sel hw2).adNil (rI .i64)) hx19) (fun wm' res H hw' hp => ?_)
   obtain ⟨v21, v22, hres, hI⟩ := hp
   replace hres := hres.symm; subst hres
   replace hS : S wm 125 _ H ((106, .agg #[.bool r18.Char, v21, v22]) :: _) ([.own (rI .i64) v21 r18.Shape, .own (rI .i64) v22 r18.Data] ++ _) Fr := hS.after rfl hw' hI
   clear hI hw'
   refine o_lit (r := (rI .i64)) (l := [0]) hS (.inr ⟨_, _, _, _, rfl, rfl, rfl, hg14⟩) rfl Fl23 rfl rfl rfl (.cons rfl .nil) rfl rfl (ri_1 (rd_flat fun _ => rfl) ri_nil) rfl ?_; clear hS; try clear tm H
   intro v23 tm H hS
   refine o_build hS (.inr ⟨_, _, _, _, rfl, rfl, rfl, hg14⟩) rfl Fb25 rfl (.cons (cells_one (hS.one (k := 0) rfl (.inr (.inr rfl)))) .nil) rfl ?_; clear hS; try clear tm
   intro tm hS
   replace hS := hS.frz (k := 1) rfl
   replace hS := hS.frz (k := 2) rfl
   replace hS := hS.litFrz (k := 0) rfl
   obtain ⟨r19, hx20, hc14⟩ := bindS hc14
   refine o_call hS (.inr ⟨_, _, _, _, rfl, rfl, rfl, hg14⟩) rfl (fun wm' hw1 hw2 => wk31  r18 (Val.mk false ([0]) ([]))  v21 v22 v23 (.slice none 0 0) (((((hS.sel hw2).adNil (rI .i64)).ad 0 rfl).ad 2 rfl).ad 1 rfl) hx20) (fun wm' res H hw' hp => ?_)
   obtain ⟨hres, hI⟩ := hp
   replace hres := hres.symm; subst hres
   replace hS : S wm 125 _ H ((109, .bool r19) :: _) ([] ++ _) Fr := hS.after rfl hw' hI
   clear hI hw'
   refine o_pickT hS (.inl rfl) rfl rfl hg14 rfl ?_; clear hS; try clear tm
   intro tm hS
   obtain rfl := Option.some.inj hc14
   exact o_nil (hS.keep (ka_cons rfl ka_nil) (fun hI => (hI.sub sn)))
  ·replace hc14 := iteF hg14 hc14
   refine o_skip hS rfl rfl rfl hg14 ?_; clear hS; try clear tm
   intro tm hS
   refine o_skip hS rfl rfl rfl hg14 ?_; clear hS; try clear tm
   intro tm hS
   refine o_skip hS rfl rfl rfl hg14 ?_; clear hS; try clear tm
   intro tm hS
   refine o_skip hS rfl rfl rfl hg14 ?_; clear hS; try clear tm
   intro tm hS
   refine o_pickF hS (.inl rfl) rfl rfl hg14 rfl ?_; clear hS; try clear tm
   intro tm hS
   obtain rfl := Option.some.inj hc14
   exact o_nil (hS.keep (ka_cons rfl ka_nil) (fun hI => (hI.sub sn)))
 intro tm H hS
 refine o_pure hS (.inl rfl) rfl rfl ?_; clear hS; try clear tm
 intro tm hS
 obtain ⟨c15, hc15, h0⟩ := bindS h0
 refine o_cutN 5 (J := fun tm H => S wm 125 tm H [(116, .bool c15)] [] Fr) ?_ ?_
 ·rcases Bool.eq_false_or_eq_true c14 with hg15 | hg15
  ·replace hc15 := iteT hg15 hc15
   obtain ⟨r20, hx21, hc15⟩ := bindS hc15
   refine o_call hS (.inr ⟨_, _, _, _, rfl, rfl, rfl, hg15⟩) rfl (fun wm' hw1 hw2 => wk36  ([])  (.slice none 0 0) ((hS.sel hw2).adNil (rI .i64)) hx21) (fun wm' res H hw' hp => ?_)
   obtain ⟨v24, v25, hres, hI⟩ := hp
   replace hres := hres.symm; subst hres
   replace hS : S wm 125 _ H ((112, .agg #[.bool r20.Char, v24, v25]) :: _) ([.own (rI .i64) v24 r20.Shape, .own (rI .i64) v25 r20.Data] ++ _) Fr := hS.after rfl hw' hI
   clear hI hw'
   obtain ⟨r21, hx22, hc15⟩ := bindS hc15
   refine o_call hS (.inr ⟨_, _, _, _, rfl, rfl, rfl, hg15⟩) rfl (fun wm' hw1 hw2 => wk26  ByteArray.empty   (hS.sel hw2) hx22) (fun wm' res H hw' hp => ?_)
   obtain ⟨v26, v27, hres, hI⟩ := hp
   replace hres := hres.symm; subst hres
   replace hS : S wm 125 _ H ((113, .agg #[.bool r21.Char, v26, v27]) :: _) ([.own (rI .i64) v26 r21.Shape, .own (rI .i64) v27 r21.Data] ++ _) Fr := hS.after rfl hw' hI
   clear hI hw'
   obtain ⟨r22, hx23, hc15⟩ := bindS hc15
   refine o_call (Pc := fun _ res H => res = .bool r22 ∧ Kn wm H ([.own (rI .i64) v26 r21.Shape, .own (rI .i64) v27 r21.Data, .own (rI .i64) v24 r20.Shape, .own (rI .i64) v25 r20.Data]) Fr) hS (.inr ⟨_, _, _, _, rfl, rfl, rfl, hg15⟩) rfl (fun wm' hw1 hw2 => by
    obtain ⟨F2, kk_1, kk_2⟩ := hS.inv.lend (La := [.fz (rI .i64) v24 r20.Shape, .fz (rI .i64) v25 r20.Data, .fz (rI .i64) v26 r21.Shape, .fz (rI .i64) v27 r21.Data]) (List.forall_mem_cons.mpr ⟨(.inr ⟨_, _, _, _, rfl, .inl (List.mem_of_getElem? (i := 2) rfl)⟩), (List.forall_mem_cons.mpr ⟨(.inr ⟨_, _, _, _, rfl, .inl (List.mem_of_getElem? (i := 3) rfl)⟩), (List.forall_mem_cons.mpr ⟨(.inr ⟨_, _, _, _, rfl, .inl (List.mem_of_getElem? (i := 0) rfl)⟩), (List.forall_mem_cons.mpr ⟨(.inr ⟨_, _, _, _, rfl, .inl (List.mem_of_getElem? (i := 1) rfl)⟩), (fun _ h => by cases h)⟩)⟩)⟩)⟩) hw1 hw2
    exact (wk31  r20 r21  v24 v25 v26 v27 kk_1 hx23).mono fun res H2 ⟨qq_1, qq_2⟩ => ⟨qq_1, kk_2 _ qq_2⟩) (fun wm' res H hw' hp => ?_)
   obtain ⟨hres, hI⟩ := hp
   replace hres := hres.symm; subst hres
   replace hS : S wm 125 _ H ((114, .bool r22) :: _) ([.own (rI .i64) v26 r21.Shape, .own (rI .i64) v27 r21.Data, .own (rI .i64) v24 r20.Shape, .own (rI .i64) v25 r20.Data]) Fr := (hS.put rfl _).withK hI
   clear hI hw'
   refine o_pure hS (.inr ⟨_, _, _, _, rfl, rfl, rfl, hg15⟩) rfl rfl ?_; clear hS; try clear tm
   intro tm hS
   refine o_pickT hS (.inl rfl) rfl rfl hg15 rfl ?_; clear hS; try clear tm
   intro tm hS
   obtain rfl := Option.some.inj hc15
   exact o_nil (hS.keep (ka_cons rfl ka_nil) (fun hI => (hI.sub sn)))
  ·replace hc15 := iteF hg15 hc15
   refine o_skip hS rfl rfl rfl hg15 ?_; clear hS; try clear tm
   intro tm hS
   refine o_skip hS rfl rfl rfl hg15 ?_; clear hS; try clear tm
   intro tm hS
   refine o_skip hS rfl rfl rfl hg15 ?_; clear hS; try clear tm
   intro tm hS
   refine o_skip hS rfl rfl rfl hg15 ?_; clear hS; try clear tm
   intro tm hS
   refine o_pickF hS (.inl rfl) rfl rfl hg15 rfl ?_; clear hS; try clear tm
   intro tm hS
   obtain rfl := Option.some.inj hc15
   exact o_nil (hS.keep (ka_cons rfl ka_nil) (fun hI => (hI.sub sn)))
 intro tm H hS
 refine o_pure hS (.inl rfl) rfl rfl ?_; clear hS; try clear tm
 intro tm hS
 obtain ⟨c16, hc16, h0⟩ := bindS h0
 refine o_cutN 4 (J := fun tm H => S wm 125 tm H [(121, .bool c16)] [] Fr) ?_ ?_
 ·rcases Bool.eq_false_or_eq_true c15 with hg16 | hg16
  ·replace hc16 := iteT hg16 hc16
   obtain ⟨r23, hx24, hc16⟩ := bindS hc16
   refine o_call hS (.inr ⟨_, _, _, _, rfl, rfl, rfl, hg16⟩) rfl (fun wm' hw1 hw2 => wk36  ([])  (.slice none 0 0) ((hS.sel hw2).adNil (rI .i64)) hx24) (fun wm' res H hw' hp => ?_)
   obtain ⟨v28, v29, hres, hI⟩ := hp
   replace hres := hres.symm; subst hres
   replace hS : S wm 125 _ H ((118, .agg #[.bool r23.Char, v28, v29]) :: _) ([.own (rI .i64) v28 r23.Shape, .own (rI .i64) v29 r23.Data] ++ _) Fr := hS.after rfl hw' hI
   clear hI hw'
   obtain ⟨r24, hx25, hc16⟩ := bindS hc16
   refine o_call (Pc := fun _ res H => res = .int .i64 r24 ∧ Kn wm H ([.own (rI .i64) v28 r23.Shape, .own (rI .i64) v29 r23.Data]) Fr) hS (.inr ⟨_, _, _, _, rfl, rfl, rfl, hg16⟩) rfl (fun wm' hw1 hw2 => by
    obtain ⟨F2, kk_1, kk_2⟩ := hS.inv.lend (La := [.fz (rI .i64) v28 r23.Shape, .fz (rI .i64) v29 r23.Data]) (List.forall_mem_cons.mpr ⟨(.inr ⟨_, _, _, _, rfl, .inl (List.mem_of_getElem? (i := 0) rfl)⟩), (List.forall_mem_cons.mpr ⟨(.inr ⟨_, _, _, _, rfl, .inl (List.mem_of_getElem? (i := 1) rfl)⟩), (fun _ h => by cases h)⟩)⟩) hw1 hw2
    exact (wk35  r23  v28 v29 kk_1 hx25).mono fun res H2 ⟨qq_1, qq_2⟩ => ⟨qq_1, kk_2 _ qq_2⟩) (fun wm' res H hw' hp => ?_)
   obtain ⟨hres, hI⟩ := hp
   replace hres := hres.symm; subst hres
   replace hS : S wm 125 _ H ((119, .int .i64 r24) :: _) ([.own (rI .i64) v28 r23.Shape, .own (rI .i64) v29 r23.Data]) Fr := (hS.put rfl _).withK hI
   clear hI hw'
   refine o_pure hS (.inr ⟨_, _, _, _, rfl, rfl, rfl, hg16⟩) rfl rfl ?_; clear hS; try clear tm
   intro tm hS
   refine o_pickT hS (.inl rfl) rfl rfl hg16 rfl ?_; clear hS; try clear tm
   intro tm hS
   obtain rfl := Option.some.inj hc16
   exact o_nil (hS.keep (ka_cons rfl ka_nil) (fun hI => (hI.sub sn)))
  ·replace hc16 := iteF hg16 hc16
   refine o_skip hS rfl rfl rfl hg16 ?_; clear hS; try clear tm
   intro tm hS
   refine o_skip hS rfl rfl rfl hg16 ?_; clear hS; try clear tm
   intro tm hS
   refine o_skip hS rfl rfl rfl hg16 ?_; clear hS; try clear tm
   intro tm hS
   refine o_pickF hS (.inl rfl) rfl rfl hg16 rfl ?_; clear hS; try clear tm
   intro tm hS
   obtain rfl := Option.some.inj hc16
   exact o_nil (hS.keep (ka_cons rfl ka_nil) (fun hI => (hI.sub sn)))
 intro tm H hS
 refine o_pure hS (.inl rfl) rfl rfl ?_; clear hS; try clear tm
 intro tm hS
 obtain ⟨c17, hc17⟩ : ∃ x : Bool, x = (c16 && true) := ⟨_, rfl⟩
 refine o_cutN 2 (J := fun tm H => S wm 125 tm H [(124, .bool c17)] [] Fr) ?_ ?_
 ·rcases Bool.eq_false_or_eq_true c16 with hg17 | hg17
  ·refine o_call hS (.inr ⟨_, _, _, _, rfl, rfl, rfl, hg17⟩) rfl (fun wm' hw1 hw2 => wpF.told ho28 (Q := fun v H' => v = .bool true ∧ H' = H) ⟨rfl, rfl⟩) (fun wm' res H hw' hp => ?_)
   obtain ⟨rfl, rfl⟩ := hp
   replace hS := hS.put (d := 123) rfl (.bool true)
   clear hw'
   refine o_pickT hS (.inl rfl) rfl rfl hg17 rfl ?_; clear hS; try clear tm
   intro tm hS
   have hc17 : c17 = true := hc17.trans (by rw [hg17]; first | rfl | simp)
   subst hc17
   exact o_nil (hS.keep (ka_cons rfl ka_nil) (fun hI => (hI.sub sn)))
  ·refine o_skip hS rfl rfl rfl hg17 ?_; clear hS; try clear tm
   intro tm hS
   refine o_pickF hS (.inl rfl) rfl rfl hg17 rfl ?_; clear hS; try clear tm
   intro tm hS
   have hc17 : c17 = false := hc17.trans (by rw [hg17]; first | rfl | simp)
   subst hc17
   exact o_nil (hS.keep (ka_cons rfl ka_nil) (fun hI => (hI.sub sn)))
 intro tm H hS
 subst hc17
 refine o_pure hS (.inl rfl) rfl rfl ?_; clear hS; try clear tm
 intro tm hS
 refine o_nil (hR _ _ ?_)
 clear hR R
 refine wpC.ret ?_
 obtain rfl := Option.some.inj h0
 refine Exists.intro _ (And.intro (rs_tmp hS rfl rs_nil) ?_)
 have hI := hS.inv
 exact ⟨rfl, (hI.sub sn)⟩
end Go.Proofs.Ytpkfklfakegbjaa.valueKnown
