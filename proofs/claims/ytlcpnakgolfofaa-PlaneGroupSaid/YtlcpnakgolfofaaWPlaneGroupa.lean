/- PlaneGroup: walks of the code: the run of each function comes to what its plain function says. -/
import Derived.Test.YtlcpnakgolfofaaMPlaneGroup
import Derived.Test.YtlcpnakgolfofaaProg
set_option linter.unusedVariables false
set_option linter.unusedSimpArgs false
set_option maxRecDepth 100000
open Go Go.Am Go.Proofs
namespace Go.Proofs.Ytlcpnakgolfofaa.planeGroup
variable {ora : FuncId → Bool}
theorem b47 : BuildOk Try.prog 47 [(0, 1), (1, 1)] [.int .i64 0, .bool false] (match Try.prog.underlying 47 with | some (.struct f) => f | _ => #[]) ((zeroOf Try.prog 47).getD undef) := ⟨by kernel_rfl, by kernel_rfl, by kernel_rfl, by kernel_rfl, by kernel_rfl⟩
theorem z47 : zeroOf Try.prog 47 = some ((zeroOf Try.prog 47).getD undef) ∧ constOk ((zeroOf Try.prog 47).getD undef) = true ∧ ((zeroOf Try.prog 47).getD undef).cells.toList = [.int .i64 0, .bool false] := ⟨by kernel_rfl, by kernel_rfl, by kernel_rfl⟩
theorem s47 : sizeOf' Try.prog 47 = some 2 := by kernel_rfl
theorem u47 : Try.prog.underlying 47 = some ((Try.prog.underlying 47).getD .bool) := by kernel_rfl
theorem u3 : Try.prog.underlying 3 = some (.int .i64) := by kernel_rfl
theorem u4 : Try.prog.underlying 4 = some .bool := by kernel_rfl
theorem q47 : eq2b Try.prog 47 = true := by kernel_rfl
theorem l75 : LitOk Try.prog 75 1 4 ((zeroOf Try.prog 4).getD undef) := ⟨by kernel_rfl, by kernel_rfl, by kernel_rfl, by kernel_rfl, by kernel_rfl, by decide⟩
theorem u75 : Try.prog.underlying 75 = some (.slice 4) := by kernel_rfl
theorem s4 : sizeOf' Try.prog 4 = some 1 := by kernel_rfl
theorem l56 : LitOk Try.prog 56 2 47 ((zeroOf Try.prog 47).getD undef) := ⟨by kernel_rfl, by kernel_rfl, by kernel_rfl, by kernel_rfl, by kernel_rfl, by decide⟩
theorem e56_56 : ElemOk Try.prog 56 56 2 16 47 47 ((Try.prog.info? 47).getD default) (((Try.prog.info? 47).getD default).zero.getD undef) := ⟨by kernel_rfl, by kernel_rfl, by kernel_rfl, by kernel_rfl, by kernel_rfl, by kernel_rfl, by kernel_rfl, by decide, by kernel_rfl, by decide⟩
theorem u56 : Try.prog.underlying 56 = some (.slice 47) := by kernel_rfl
theorem w49 {wm : Nat} {H : AHeap} {Fr : List Ent}  (turn1 : Int)   (hI : Kn wm H [] Fr) {r : Int} (h0 : M.plane_right turn1 = some r) :
  wpF Try.prog ora wm 49 [.int .i64 turn1] H (fun res H => res = .int .i64 r ∧ Kn wm H [] Fr) := by
 unfold M.plane_right at h0
 refine f_enter (n := 7) Try.func49 rfl (by simp) hI rfl rfl rfl fun tm hS => ?_
 clear hI
 refine c_reg fun R hR => ?_
 refine o_pure hS (.inl rfl) rfl rfl ?_; clear hS; try clear tm
 intro tm hS
 refine o_nil (hR _ _ ?_)
 clear hR R
 refine c_reg fun R hR => ?_
 refine o_pure hS (.inl rfl) rfl rfl ?_; clear hS; try clear tm
 intro tm hS
 refine o_pure hS (.inl rfl) rfl rfl ?_; clear hS; try clear tm
 intro tm hS
 refine o_pure hS (.inl rfl) rfl rfl ?_; clear hS; try clear tm
 intro tm hS
 refine o_pure hS (.inl rfl) rfl rfl ?_; clear hS; try clear tm
 intro tm hS
 refine o_pure hS (.inl rfl) rfl rfl ?_; clear hS; try clear tm
 intro tm hS
 refine o_nil (hR _ _ ?_)
 clear hR R
 refine wpC.ret ?_
 obtain rfl := Option.some.inj h0
 refine Exists.intro _ (And.intro (rs_tmp hS rfl rs_nil) ?_)
 have hI := hS.inv
 exact ⟨rfl, (hI.sub sn)⟩
theorem w37 {wm : Nat} {H : AHeap} {Fr : List Ent}  (a1 : Sym) (b1 : Sym)   (hI : Kn wm H [] Fr) {r : Sym} (h0 : M.plane_Then a1 b1 = some r) :
  wpF Try.prog ora wm 37 [.agg #[.int .i64 a1.Turn, .bool a1.Flip], .agg #[.int .i64 b1.Turn, .bool b1.Flip]] H (fun res H => res = .agg #[.int .i64 r.Turn, .bool r.Flip] ∧ Kn wm H [] Fr) := by
 unfold M.plane_Then at h0
 refine f_enter (n := 25) Try.func37 rfl (by simp) hI rfl rfl rfl fun tm hS => ?_
 clear hI
 refine c_reg fun R hR => ?_
 refine o_box hS (.inl rfl) rfl rfl rfl (all_cons rfl (all_cons rfl all_nil)) ?_; clear hS; try clear tm H
 intro b2 tm H hS
 refine o_box hS (.inl rfl) rfl rfl rfl (all_cons rfl (all_cons rfl all_nil)) ?_; clear hS; try clear tm H
 intro b3 tm H hS
 refine o_alloc hS (.inl rfl) rfl z47 (by decide) ?_; clear hS; try clear tm H
 intro b4 tm H hS
 refine o_nil (hR _ _ ?_)
 clear hR R
 refine c_reg fun R hR => ?_
 refine o_pure hS (.inl rfl) rfl rfl ?_; clear hS; try clear tm
 intro tm hS
 refine o_ld1 (k := 2) hS (.inl rfl) rfl rfl rfl (.inl rfl) u3 rfl rfl ?_; clear hS; try clear tm
 intro tm hS
 obtain ⟨r1, hx1, h0⟩ := bindS h0
 refine o_call hS (.inl rfl) rfl (fun wm' hw1 hw2 => w49  a1.Turn   (hS.sel hw2) hx1) (fun wm' res H hw' hp => ?_)
 obtain ⟨hres, hI⟩ := hp
 replace hres := hres.symm; subst hres
 replace hS : S wm 25 _ H ((8, .int .i64 r1) :: _) ([] ++ _) Fr := hS.after rfl hw' hI
 clear hI hw'
 refine o_pure hS (.inl rfl) rfl rfl ?_; clear hS; try clear tm
 intro tm hS
 refine o_nil (hR _ _ ?_)
 clear hR R
 obtain ⟨turn1, h1, h0⟩ := bindS h0
 refine c_seqJ (J := fun tm H => (match (generalizing := false) turn1 with | turn1 => S wm 25 tm H [(2, .pointer (some ⟨b2, 0, none⟩)), (3, .pointer (some ⟨b3, 0, none⟩)), (4, .pointer (some ⟨b4, 0, none⟩)), (5, .int .i64 turn1)] [.box b2 [.int .i64 a1.Turn, .bool a1.Flip], .box b3 [.int .i64 b1.Turn, .bool b1.Flip], .box b4 [.int .i64 0, .bool false]] Fr)) ?_ ?_
 ·refine c_reg fun R hR => ?_
  refine o_pure hS (.inl rfl) rfl rfl ?_; clear hS; try clear tm
  intro tm hS
  refine o_ld1 (k := 1) hS (.inl rfl) rfl rfl rfl (.inl rfl) u4 rfl rfl ?_; clear hS; try clear tm
  intro tm hS
  refine o_nil (hR _ _ ?_)
  clear hR R
  refine c_cond hS rfl (fun hc => ?_) (fun hc => ?_)
  ·replace h1 := iteT hc h1
   refine c_reg1 fun R hR => ?_
   refine o_pure hS (.inl rfl) rfl rfl ?_; clear hS; try clear tm
   intro tm hS
   refine o_pure hS (.inl rfl) rfl rfl ?_; clear hS; try clear tm
   intro tm hS
   refine o_pure hS (.inl rfl) rfl rfl ?_; clear hS; try clear tm
   intro tm hS
   refine o_nil (hR _ _ ?_)
   clear hR R
   obtain rfl := Option.some.inj h1
   change S wm 25 _ _ _ _ Fr; exact hS.keep (ka_cons rfl (ka_cons rfl (ka_cons rfl (ka_cons rfl ka_nil)))) (fun hI => ((((hI.pull 0 rfl).pull 1 rfl).pull 2 rfl).take 3))
  ·replace h1 := iteF hc h1
   refine wpC.skip ?_
   obtain rfl := Option.some.inj h1
   change S wm 25 _ _ _ _ Fr; exact hS.keep (ka_cons rfl (ka_cons rfl (ka_cons rfl (ka_cons rfl ka_nil)))) (fun hI => ((((hI.pull 0 rfl).pull 1 rfl).pull 2 rfl).take 3))
 intro tm H hS
 change S wm 25 tm H [(2, .pointer (some ⟨b2, 0, none⟩)), (3, .pointer (some ⟨b3, 0, none⟩)), (4, .pointer (some ⟨b4, 0, none⟩)), (5, .int .i64 turn1)] [.box b2 [.int .i64 a1.Turn, .bool a1.Flip], .box b3 [.int .i64 b1.Turn, .bool b1.Flip], .box b4 [.int .i64 0, .bool false]] Fr at hS
 refine c_reg fun R hR => ?_
 refine o_pure hS (.inl rfl) rfl rfl ?_; clear hS; try clear tm
 intro tm hS
 refine o_pure hS (.inl rfl) rfl rfl ?_; clear hS; try clear tm
 intro tm hS
 refine o_ld1 (k := 1) hS (.inl rfl) rfl rfl rfl (.inl rfl) u3 rfl rfl ?_; clear hS; try clear tm
 intro tm hS
 obtain ⟨r2, hx2, h0⟩ := bindS h0
 refine o_call hS (.inl rfl) rfl (fun wm' hw1 hw2 => w49  b1.Turn   (hS.sel hw2) hx2) (fun wm' res H hw' hp => ?_)
 obtain ⟨hres, hI⟩ := hp
 replace hres := hres.symm; subst hres
 replace hS : S wm 25 _ H ((16, .int .i64 r2) :: _) ([] ++ _) Fr := hS.after rfl hw' hI
 clear hI hw'
 refine o_pure hS (.inl rfl) rfl rfl ?_; clear hS; try clear tm
 intro tm hS
 obtain ⟨r3, hx3, h0⟩ := bindS h0
 refine o_call hS (.inl rfl) rfl (fun wm' hw1 hw2 => w49  (IntKind.i64.wrap (turn1 + r2))   (hS.sel hw2) hx3) (fun wm' res H hw' hp => ?_)
 obtain ⟨hres, hI⟩ := hp
 replace hres := hres.symm; subst hres
 replace hS : S wm 25 _ H ((18, .int .i64 r3) :: _) ([] ++ _) Fr := hS.after rfl hw' hI
 clear hI hw'
 refine o_pure hS (.inl rfl) rfl rfl ?_; clear hS; try clear tm
 intro tm hS
 refine o_ld1 (k := 0) hS (.inl rfl) rfl rfl rfl (.inl rfl) u4 rfl rfl ?_; clear hS; try clear tm
 intro tm hS
 refine o_pure hS (.inl rfl) rfl rfl ?_; clear hS; try clear tm
 intro tm hS
 refine o_ld1 (k := 1) hS (.inl rfl) rfl rfl rfl (.inl rfl) u4 rfl rfl ?_; clear hS; try clear tm
 intro tm hS
 refine o_pure hS (.inl rfl) rfl rfl ?_; clear hS; try clear tm
 intro tm hS
 refine o_build hS (.inl rfl) rfl b47 rfl (.cons rfl (.cons rfl .nil)) rfl ?_; clear hS; try clear tm
 intro tm hS
 refine o_st (k := 2) hS (.inl rfl) rfl rfl rfl s47 rfl rfl (all_cons rfl (all_cons rfl all_nil)) rfl ?_; clear hS; try clear H
 intro H hS
 refine o_nil (hR _ _ ?_)
 clear hR R
 refine wpC.ret ?_
 obtain rfl := Option.some.inj h0
 refine Exists.intro _ (And.intro (rs_cellA (k := 2) hS rfl rfl (.inl rfl) u47 rfl s47 rfl rs_nil) ?_)
 have hI := hS.inv
 exact ⟨rfl, (hI.sub sn)⟩
theorem w38 {wm : Nat} {H : AHeap} {Fr : List Ent}  (a1 : Sym)   (hI : Kn wm H [] Fr) {r : Sym} (h0 : M.plane_Inverse a1 = some r) :
  wpF Try.prog ora wm 38 [.agg #[.int .i64 a1.Turn, .bool a1.Flip]] H (fun res H => res = .agg #[.int .i64 r.Turn, .bool r.Flip] ∧ Kn wm H [] Fr) := by
 unfold M.plane_Inverse at h0
 refine f_enter (n := 15) Try.func38 rfl (by simp) hI rfl rfl rfl fun tm hS => ?_
 clear hI
 refine c_reg fun R hR => ?_
 refine o_box hS (.inl rfl) rfl rfl rfl (all_cons rfl (all_cons rfl all_nil)) ?_; clear hS; try clear tm H
 intro b1 tm H hS
 refine o_alloc hS (.inl rfl) rfl z47 (by decide) ?_; clear hS; try clear tm H
 intro b2 tm H hS
 refine o_nil (hR _ _ ?_)
 clear hR R
 refine c_seqS ?_
 refine c_reg fun R hR => ?_
 refine o_pure hS (.inl rfl) rfl rfl ?_; clear hS; try clear tm
 intro tm hS
 refine o_ld1 (k := 1) hS (.inl rfl) rfl rfl rfl (.inl rfl) u4 rfl rfl ?_; clear hS; try clear tm
 intro tm hS
 refine o_nil (hR _ _ ?_)
 clear hR R
 refine c_cond hS rfl (fun hc => ?_) (fun hc => ?_)
 ·replace h0 := iteT hc h0
  refine c_reg fun R hR => ?_
  refine o_pure hS (.inl rfl) rfl rfl ?_; clear hS; try clear tm
  intro tm hS
  refine o_ld1 (k := 1) hS (.inl rfl) rfl rfl rfl (.inl rfl) u3 rfl rfl ?_; clear hS; try clear tm
  intro tm hS
  obtain ⟨r1, hx1, h0⟩ := bindS h0
  refine o_call hS (.inl rfl) rfl (fun wm' hw1 hw2 => w49  a1.Turn   (hS.sel hw2) hx1) (fun wm' res H hw' hp => ?_)
  obtain ⟨hres, hI⟩ := hp
  replace hres := hres.symm; subst hres
  replace hS : S wm 15 _ H ((7, .int .i64 r1) :: _) ([] ++ _) Fr := hS.after rfl hw' hI
  clear hI hw'
  refine o_build hS (.inl rfl) rfl b47 rfl (.cons rfl (.cons rfl .nil)) rfl ?_; clear hS; try clear tm
  intro tm hS
  refine o_st (k := 0) hS (.inl rfl) rfl rfl rfl s47 rfl rfl (all_cons rfl (all_cons rfl all_nil)) rfl ?_; clear hS; try clear H
  intro H hS
  refine o_nil (hR _ _ ?_)
  clear hR R
  refine wpC.ret ?_
  obtain rfl := Option.some.inj h0
  refine Exists.intro _ (And.intro (rs_cellA (k := 0) hS rfl rfl (.inl rfl) u47 rfl s47 rfl rs_nil) ?_)
  have hI := hS.inv
  exact ⟨rfl, (hI.sub sn)⟩
 ·replace h0 := iteF hc h0
  refine wpC.skip ?_
  refine c_reg fun R hR => ?_
  refine o_pure hS (.inl rfl) rfl rfl ?_; clear hS; try clear tm
  intro tm hS
  refine o_ld1 (k := 1) hS (.inl rfl) rfl rfl rfl (.inl rfl) u3 rfl rfl ?_; clear hS; try clear tm
  intro tm hS
  obtain ⟨r2, hx2, h0⟩ := bindS h0
  refine o_call hS (.inl rfl) rfl (fun wm' hw1 hw2 => w49  a1.Turn   (hS.sel hw2) hx2) (fun wm' res H hw' hp => ?_)
  obtain ⟨hres, hI⟩ := hp
  replace hres := hres.symm; subst hres
  replace hS : S wm 15 _ H ((11, .int .i64 r2) :: _) ([] ++ _) Fr := hS.after rfl hw' hI
  clear hI hw'
  refine o_pure hS (.inl rfl) rfl rfl ?_; clear hS; try clear tm
  intro tm hS
  obtain ⟨r3, hx3, h0⟩ := bindS h0
  refine o_call hS (.inl rfl) rfl (fun wm' hw1 hw2 => w49  (IntKind.i64.wrap (0 - r2))   (hS.sel hw2) hx3) (fun wm' res H hw' hp => ?_)
  obtain ⟨hres, hI⟩ := hp
  replace hres := hres.symm; subst hres
  replace hS : S wm 15 _ H ((13, .int .i64 r3) :: _) ([] ++ _) Fr := hS.after rfl hw' hI
  clear hI hw'
  refine o_build hS (.inl rfl) rfl b47 rfl (.cons rfl (.cons rfl .nil)) rfl ?_; clear hS; try clear tm
  intro tm hS
  refine o_st (k := 0) hS (.inl rfl) rfl rfl rfl s47 rfl rfl (all_cons rfl (all_cons rfl all_nil)) rfl ?_; clear hS; try clear H
  intro H hS
  refine o_nil (hR _ _ ?_)
  clear hR R
  refine wpC.ret ?_
  obtain rfl := Option.some.inj h0
  refine Exists.intro _ (And.intro (rs_cellA (k := 0) hS rfl rfl (.inl rfl) u47 rfl s47 rfl rs_nil) ?_)
  have hI := hS.inv
  exact ⟨rfl, (hI.sub sn)⟩
theorem w35 {wm : Nat} {H : AHeap} {Fr : List Ent} (ho35 : ora 35 = false)    (hI : Kn wm H [] Fr) {r : (List Sym)} (h0 : M.plane_All = some r) :
  wpF Try.prog ora wm 35 [] H (fun res H => ∃ v6, res = v6 ∧ Kn wm H [.own rSym v6 r] Fr) := by
 unfold M.plane_All at h0
 refine f_enter (n := 23) Try.func35 rfl (by simp [ho35]) hI rfl rfl rfl fun tm hS => ?_
 clear hI
 refine c_reg fun R hR => ?_
 refine o_pure hS (.inl rfl) rfl rfl ?_; clear hS; try clear tm
 intro tm hS
 refine o_nil (hR _ _ ?_)
 clear hR R
 refine c_reg fun R hR => ?_
 refine o_pure hS (.inl rfl) rfl rfl ?_; clear hS; try clear tm
 intro tm hS
 refine o_nil (hR _ _ ?_)
 clear hR R
 refine c_seqS ?_
 refine c_reg fun R hR => ?_
 refine o_lit (r := rB) (l := [false, true]) hS (.inl rfl) rfl l75 rfl rfl rfl (.cons rfl (.cons rfl .nil)) rfl rfl (ri_1 (rd_flat fun _ => rfl) (ri_1 (rd_flat fun _ => rfl) ri_nil)) rfl ?_; clear hS; try clear tm H
 intro v1 tm H hS
 refine o_len (k := 0) (r := rB) hS (.inl rfl) rfl rfl rfl (.inr (.inr rfl)) u75 rfl ?_; clear hS; try clear tm
 intro tm hS
 refine o_pure hS (.inl rfl) rfl rfl ?_; clear hS; try clear tm
 intro tm hS
 refine o_nil (hR _ _ ?_)
 clear hR R
 obtain ⟨k1, hw1, h0⟩ := bindS h0
 refine wpC.block ?_
 replace hS := hS.nilOwn rSym
 refine c_loop (I := fun (s : (List Sym) × Int) tm H => match (generalizing := false) s with | (out1, t1) => ∃ v2, S wm 23 tm H [(1, v2), (5, v1), (6, .int .i64 (([false, true]).length : Int)), (7, .int .i64 t1)] [.own rSym v2 out1, .lit rB v1 ([false, true])] Fr) hw1 (by refine Exists.intro (.slice none 0 0) ?_; change S wm 23 _ _ _ _ Fr; exact hS.keep (ka_cons rfl (ka_cons rfl (ka_cons rfl (ka_cons rfl ka_nil)))) (fun hI => (hI.sub (sc (sc sn))))) ?_
 clear hS
 intro s1 tm H c1 hS h2 hq2
 obtain ⟨out1, t1⟩ := s1
 obtain ⟨v2, hS⟩ := hS
 change S wm 23 tm H [(1, v2), (5, v1), (6, .int .i64 (([false, true]).length : Int)), (7, .int .i64 t1)] [.own rSym v2 out1, .lit rB v1 ([false, true])] Fr at hS
 refine c_reg fun R hR => ?_
 refine o_pure hS (.inl rfl) rfl rfl ?_; clear hS; try clear tm
 intro tm hS
 refine o_nil (hR _ _ ?_)
 clear hR R
 refine c_seqS ?_
 refine c_cond hS rfl (fun hc => ?_) (fun hc => ?_)
 ·replace h2 := iteT hc h2
  refine wpC.skip ?_
  refine c_seqS ?_
  refine wpC.block ?_
  refine c_reg fun R hR => ?_
  obtain ⟨y1, hx1, h2⟩ := bindS h2
  refine o_ixA (k := 1) (r := rB) hS (.inl rfl) rfl rfl rfl rfl (.inr (.inr rfl)) u75 s4 hx1 ?_; clear hS; try clear tm
  intro tm hS
  refine o_ldF (r := rB) (k := 1) hS (.inl rfl) rfl rfl rfl (.inr (.inr rfl)) hx1 u4 rfl flat_B rfl ?_; clear hS; try clear tm
  intro tm hS
  refine o_pure hS (.inl rfl) rfl rfl ?_; clear hS; try clear tm
  intro tm hS
  refine o_nil (hR _ _ ?_)
  clear hR R
  refine c_reg fun R hR => ?_
  refine o_pure hS (.inl rfl) rfl rfl ?_; clear hS; try clear tm
  intro tm hS
  refine o_nil (hR _ _ ?_)
  clear hR R
  obtain ⟨k2, hw2, h2⟩ := bindS h2
  refine wpC.block ?_
  refine c_loop (I := fun (s : (List Sym) × Int) tm H => match (generalizing := false) s with | (out2, t2) => ∃ v3, S wm 23 tm H [(1, v3), (3, .bool y1), (5, v1), (6, .int .i64 (([false, true]).length : Int)), (7, .int .i64 t1), (11, .int .i64 t2)] [.own rSym v3 out2, .lit rB v1 ([false, true])] Fr) hw2 (by refine Exists.intro v2 ?_; change S wm 23 _ _ _ _ Fr; exact hS.keep (ka_cons rfl (ka_cons rfl (ka_cons rfl (ka_cons rfl (ka_cons rfl (ka_cons rfl ka_nil)))))) (fun hI => (hI.sub (sc (sc sn))))) ?_
  clear hS
  intro s2 tm H c2 hS h4 hq4
  obtain ⟨out2, t2⟩ := s2
  obtain ⟨v3, hS⟩ := hS
  change S wm 23 tm H [(1, v3), (3, .bool y1), (5, v1), (6, .int .i64 (([false, true]).length : Int)), (7, .int .i64 t1), (11, .int .i64 t2)] [.own rSym v3 out2, .lit rB v1 ([false, true])] Fr at hS
  refine c_reg fun R hR => ?_
  refine o_pure hS (.inl rfl) rfl rfl ?_; clear hS; try clear tm
  intro tm hS
  refine o_nil (hR _ _ ?_)
  clear hR R
  refine c_seqS ?_
  refine c_cond hS rfl (fun hc => ?_) (fun hc => ?_)
  ·replace h4 := iteT hc h4
   refine wpC.skip ?_
   refine c_seqS ?_
   refine wpC.block ?_
   refine c_reg fun R hR => ?_
   refine o_pure hS (.inl rfl) rfl rfl ?_; clear hS; try clear tm
   intro tm hS
   refine o_pure hS (.inl rfl) rfl rfl ?_; clear hS; try clear tm
   intro tm hS
   refine o_nil (hR _ _ ?_)
   clear hR R
   refine c_reg1 fun R hR => ?_
   refine o_pure hS (.inl rfl) rfl rfl ?_; clear hS; try clear tm
   intro tm hS
   refine o_pure hS (.inl rfl) rfl rfl ?_; clear hS; try clear tm
   intro tm hS
   refine o_pure hS (.inl rfl) rfl rfl ?_; clear hS; try clear tm
   intro tm hS
   refine o_build hS (.inl rfl) rfl b47 rfl (.cons rfl (.cons rfl .nil)) rfl ?_; clear hS; try clear tm
   intro tm hS
   refine o_lit (r := rSym) (l := [(Sym.mk t2 y1)]) hS (.inl rfl) rfl l56 rfl rfl rfl (.cons rfl .nil) rfl rfl (ri_2 (rd_flat fun _ => rfl) ri_nil) rfl ?_; clear hS; try clear tm H
   intro v4 tm H hS
   obtain ⟨l1, hx2, h4⟩ := bindS h4
   refine o_app (k1 := 1) (k2 := 0) (r := rSym) hS (.inl rfl) rfl rfl rfl rfl rfl (.inr (.inr rfl)) rfl e56_56 rfl hx2 ?_; clear hS; try clear tm H
   intro v5 tm H hS
   refine o_pure hS (.inl rfl) rfl rfl ?_; clear hS; try clear tm
   intro tm hS
   refine o_nil (hR _ _ ?_)
   clear hR R
   refine c_reg1 fun R hR => ?_
   refine o_pure hS (.inl rfl) rfl rfl ?_; clear hS; try clear tm
   intro tm hS
   refine o_pure hS (.inl rfl) rfl rfl ?_; clear hS; try clear tm
   intro tm hS
   refine o_nil (hR _ _ ?_)
   clear hR R
   obtain rfl := Option.some.inj h4
   refine ⟨_, rfl, ?_⟩
   refine Exists.intro v5 ?_; change S wm 23 _ _ _ _ Fr; exact hS.keep (ka_cons rfl (ka_cons rfl (ka_cons rfl (ka_cons rfl (ka_cons rfl (ka_cons rfl ka_nil)))))) (fun hI => (hI.sub (sd (sc (sc sn)))))
  ·replace h4 := iteF hc h4
   refine wpC.exit ?_
   obtain rfl := Option.some.inj h4
   obtain rfl := hq4 _ rfl
   refine And.intro rfl (blk_eq ?_)
   replace h2 := joinN h2
   refine c_reg1 fun R hR => ?_
   refine o_pure hS (.inl rfl) rfl rfl ?_; clear hS; try clear tm
   intro tm hS
   refine o_pure hS (.inl rfl) rfl rfl ?_; clear hS; try clear tm
   intro tm hS
   refine o_nil (hR _ _ ?_)
   clear hR R
   obtain rfl := Option.some.inj h2
   refine ⟨_, rfl, ?_⟩
   refine Exists.intro v3 ?_; change S wm 23 _ _ _ _ Fr; exact hS.keep (ka_cons rfl (ka_cons rfl (ka_cons rfl (ka_cons rfl ka_nil)))) (fun hI => (hI.sub (sc (sc sn))))
 ·replace h2 := iteF hc h2
  refine wpC.exit ?_
  obtain rfl := Option.some.inj h2
  obtain rfl := hq2 _ rfl
  refine And.intro rfl (blk_eq ?_)
  replace h0 := joinN h0
  refine c_reg fun R hR => ?_
  refine o_pure hS (.inl rfl) rfl rfl ?_; clear hS; try clear tm
  intro tm hS
  refine o_pure hS (.inl rfl) rfl rfl ?_; clear hS; try clear tm
  intro tm hS
  refine o_nil (hR _ _ ?_)
  clear hR R
  refine wpC.ret ?_
  obtain rfl := Option.some.inj h0
  refine Exists.intro _ (And.intro (rs_tmp hS rfl rs_nil) ?_)
  have hI := hS.inv
  exact ⟨v2, rfl, (hI.sub (sc sn))⟩
theorem w11 {wm : Nat} {H : AHeap} {Fr : List Ent} (ho25 : ora 25 = true) (ho35 : ora 35 = false) (t1 : Int) (u1 : Int) (w1 : Int) (f1 : Bool) (g1 : Bool) (h1 : Bool)   (hI : Kn wm H [] Fr) {r : Bool} (h0 : M.anamnesislaw04_PlaneGroup t1 u1 w1 f1 g1 h1 = some r) :
  wpF Try.prog ora wm 11 [.int .i64 t1, .int .i64 u1, .int .i64 w1, .bool f1, .bool g1, .bool h1] H (fun res H => res = .bool r ∧ Kn wm H [] Fr) := by
 unfold M.anamnesislaw04_PlaneGroup at h0
 refine f_enter (n := 102) Try.func11 rfl (by simp) hI rfl rfl rfl fun tm hS => ?_
 clear hI
 refine c_reg fun R hR => ?_
 refine o_pure hS (.inl rfl) rfl rfl ?_; clear hS; try clear tm
 intro tm hS
 refine o_nil (hR _ _ ?_)
 clear hR R
 refine c_reg fun R hR => ?_
 refine o_pure hS (.inl rfl) rfl rfl ?_; clear hS; try clear tm
 intro tm hS
 refine o_pure hS (.inl rfl) rfl rfl ?_; clear hS; try clear tm
 intro tm hS
 refine o_build hS (.inl rfl) rfl b47 rfl (.cons rfl (.cons rfl .nil)) rfl ?_; clear hS; try clear tm
 intro tm hS
 refine o_alloc hS (.inl rfl) rfl z47 (by decide) ?_; clear hS; try clear tm H
 intro b1 tm H hS
 refine o_st (k := 0) hS (.inl rfl) rfl rfl rfl s47 rfl rfl (all_cons rfl (all_cons rfl all_nil)) rfl ?_; clear hS; try clear H
 intro H hS
 refine o_nil (hR _ _ ?_)
 clear hR R
 refine c_reg fun R hR => ?_
 refine o_pure hS (.inl rfl) rfl rfl ?_; clear hS; try clear tm
 intro tm hS
 refine o_pure hS (.inl rfl) rfl rfl ?_; clear hS; try clear tm
 intro tm hS
 refine o_build hS (.inl rfl) rfl b47 rfl (.cons rfl (.cons rfl .nil)) rfl ?_; clear hS; try clear tm
 intro tm hS
 refine o_alloc hS (.inl rfl) rfl z47 (by decide) ?_; clear hS; try clear tm H
 intro b2 tm H hS
 refine o_st (k := 0) hS (.inl rfl) rfl rfl rfl s47 rfl rfl (all_cons rfl (all_cons rfl all_nil)) rfl ?_; clear hS; try clear H
 intro H hS
 refine o_nil (hR _ _ ?_)
 clear hR R
 refine c_reg fun R hR => ?_
 refine o_pure hS (.inl rfl) rfl rfl ?_; clear hS; try clear tm
 intro tm hS
 refine o_pure hS (.inl rfl) rfl rfl ?_; clear hS; try clear tm
 intro tm hS
 refine o_build hS (.inl rfl) rfl b47 rfl (.cons rfl (.cons rfl .nil)) rfl ?_; clear hS; try clear tm
 intro tm hS
 refine o_alloc hS (.inl rfl) rfl z47 (by decide) ?_; clear hS; try clear tm H
 intro b3 tm H hS
 refine o_st (k := 0) hS (.inl rfl) rfl rfl rfl s47 rfl rfl (all_cons rfl (all_cons rfl all_nil)) rfl ?_; clear hS; try clear H
 intro H hS
 refine o_nil (hR _ _ ?_)
 clear hR R
 refine c_seqS ?_
 refine c_reg fun R hR => ?_
 refine o_ldA (k := 2) hS (.inl rfl) rfl rfl rfl (.inl rfl) u47 rfl s47 rfl ?_; clear hS; try clear tm
 intro tm hS
 refine o_ldA (k := 1) hS (.inl rfl) rfl rfl rfl (.inl rfl) u47 rfl s47 rfl ?_; clear hS; try clear tm
 intro tm hS
 obtain ⟨r1, hx1, h0⟩ := bindS h0
 refine o_call hS (.inl rfl) rfl (fun wm' hw1 hw2 => w37  (Sym.mk t1 f1) (Sym.mk u1 g1)   (hS.sel hw2) hx1) (fun wm' res H hw' hp => ?_)
 obtain ⟨hres, hI⟩ := hp
 replace hres := hres.symm; subst hres
 replace hS : S wm 102 _ H ((31, .agg #[.int .i64 r1.Turn, .bool r1.Flip]) :: _) ([] ++ _) Fr := hS.after rfl hw' hI
 clear hI hw'
 refine o_ldA (k := 0) hS (.inl rfl) rfl rfl rfl (.inl rfl) u47 rfl s47 rfl ?_; clear hS; try clear tm
 intro tm hS
 obtain ⟨r2, hx2, h0⟩ := bindS h0
 refine o_call hS (.inl rfl) rfl (fun wm' hw1 hw2 => w37  r1 (Sym.mk w1 h1)   (hS.sel hw2) hx2) (fun wm' res H hw' hp => ?_)
 obtain ⟨hres, hI⟩ := hp
 replace hres := hres.symm; subst hres
 replace hS : S wm 102 _ H ((33, .agg #[.int .i64 r2.Turn, .bool r2.Flip]) :: _) ([] ++ _) Fr := hS.after rfl hw' hI
 clear hI hw'
 refine o_ldA (k := 2) hS (.inl rfl) rfl rfl rfl (.inl rfl) u47 rfl s47 rfl ?_; clear hS; try clear tm
 intro tm hS
 refine o_ldA (k := 1) hS (.inl rfl) rfl rfl rfl (.inl rfl) u47 rfl s47 rfl ?_; clear hS; try clear tm
 intro tm hS
 refine o_ldA (k := 0) hS (.inl rfl) rfl rfl rfl (.inl rfl) u47 rfl s47 rfl ?_; clear hS; try clear tm
 intro tm hS
 obtain ⟨r3, hx3, h0⟩ := bindS h0
 refine o_call hS (.inl rfl) rfl (fun wm' hw1 hw2 => w37  (Sym.mk u1 g1) (Sym.mk w1 h1)   (hS.sel hw2) hx3) (fun wm' res H hw' hp => ?_)
 obtain ⟨hres, hI⟩ := hp
 replace hres := hres.symm; subst hres
 replace hS : S wm 102 _ H ((37, .agg #[.int .i64 r3.Turn, .bool r3.Flip]) :: _) ([] ++ _) Fr := hS.after rfl hw' hI
 clear hI hw'
 obtain ⟨r4, hx4, h0⟩ := bindS h0
 refine o_call hS (.inl rfl) rfl (fun wm' hw1 hw2 => w37  (Sym.mk t1 f1) r3   (hS.sel hw2) hx4) (fun wm' res H hw' hp => ?_)
 obtain ⟨hres, hI⟩ := hp
 replace hres := hres.symm; subst hres
 replace hS : S wm 102 _ H ((38, .agg #[.int .i64 r4.Turn, .bool r4.Flip]) :: _) ([] ++ _) Fr := hS.after rfl hw' hI
 clear hI hw'
 refine o_eq2n hS (.inl rfl) rfl rfl rfl q47 rfl ?_; clear hS; try clear tm
 intro tm hS
 refine o_pure hS (.inl rfl) rfl rfl ?_; clear hS; try clear tm
 intro tm hS
 obtain ⟨c1, hc1, h0⟩ := bindS h0
 refine o_cutN 7 (J := fun tm H => S wm 102 tm H [(47, .bool c1), (3, .bool f1), (13, .pointer (some ⟨b1, 0, none⟩))] [.box b1 [.int .i64 t1, .bool f1]] Fr) ?_ ?_
 ·rcases Bool.eq_false_or_eq_true (!((r2.Turn == r4.Turn) && (r2.Flip == r4.Flip))) with hg1 | hg1
  ·replace hc1 := iteT hg1 hc1
   refine o_skip hS rfl rfl rfl hg1 ?_; clear hS; try clear tm
   intro tm hS
   refine o_skip hS rfl rfl rfl hg1 ?_; clear hS; try clear tm
   intro tm hS
   refine o_skip hS rfl rfl rfl hg1 ?_; clear hS; try clear tm
   intro tm hS
   refine o_skip hS rfl rfl rfl hg1 ?_; clear hS; try clear tm
   intro tm hS
   refine o_skip hS rfl rfl rfl hg1 ?_; clear hS; try clear tm
   intro tm hS
   refine o_skip hS rfl rfl rfl hg1 ?_; clear hS; try clear tm
   intro tm hS
   refine o_pickT hS (.inl rfl) rfl rfl hg1 rfl ?_; clear hS; try clear tm
   intro tm hS
   obtain rfl := Option.some.inj hc1
   exact o_nil (hS.keep (ka_cons rfl (ka_cons rfl (ka_cons rfl ka_nil))) (fun hI => (hI.sub (sd (sd (sc sn))))))
  ·replace hc1 := iteF hg1 hc1
   refine o_ldA (k := 2) hS (.inr ⟨_, _, _, _, rfl, rfl, rfl, hg1⟩) rfl rfl rfl (.inl rfl) u47 rfl s47 rfl ?_; clear hS; try clear tm
   intro tm hS
   refine o_ldA (k := 2) hS (.inr ⟨_, _, _, _, rfl, rfl, rfl, hg1⟩) rfl rfl rfl (.inl rfl) u47 rfl s47 rfl ?_; clear hS; try clear tm
   intro tm hS
   obtain ⟨r5, hx5, hc1⟩ := bindS hc1
   refine o_call hS (.inr ⟨_, _, _, _, rfl, rfl, rfl, hg1⟩) rfl (fun wm' hw1 hw2 => w38  (Sym.mk t1 f1)   (hS.sel hw2) hx5) (fun wm' res H hw' hp => ?_)
   obtain ⟨hres, hI⟩ := hp
   replace hres := hres.symm; subst hres
   replace hS : S wm 102 _ H ((43, .agg #[.int .i64 r5.Turn, .bool r5.Flip]) :: _) ([] ++ _) Fr := hS.after rfl hw' hI
   clear hI hw'
   obtain ⟨r6, hx6, hc1⟩ := bindS hc1
   refine o_call hS (.inr ⟨_, _, _, _, rfl, rfl, rfl, hg1⟩) rfl (fun wm' hw1 hw2 => w37  (Sym.mk t1 f1) r5   (hS.sel hw2) hx6) (fun wm' res H hw' hp => ?_)
   obtain ⟨hres, hI⟩ := hp
   replace hres := hres.symm; subst hres
   replace hS : S wm 102 _ H ((44, .agg #[.int .i64 r6.Turn, .bool r6.Flip]) :: _) ([] ++ _) Fr := hS.after rfl hw' hI
   clear hI hw'
   refine o_build hS (.inr ⟨_, _, _, _, rfl, rfl, rfl, hg1⟩) rfl b47 rfl .nil rfl ?_; clear hS; try clear tm
   intro tm hS
   refine o_eq2n hS (.inr ⟨_, _, _, _, rfl, rfl, rfl, hg1⟩) rfl rfl rfl q47 rfl ?_; clear hS; try clear tm
   intro tm hS
   refine o_pickF hS (.inl rfl) rfl rfl hg1 rfl ?_; clear hS; try clear tm
   intro tm hS
   obtain rfl := Option.some.inj hc1
   exact o_nil (hS.keep (ka_cons rfl (ka_cons rfl (ka_cons rfl ka_nil))) (fun hI => (hI.sub (sd (sd (sc sn))))))
 intro tm H hS
 refine o_pure hS (.inl rfl) rfl rfl ?_; clear hS; try clear tm
 intro tm hS
 obtain ⟨c2, hc2, h0⟩ := bindS h0
 refine o_cutN 7 (J := fun tm H => S wm 102 tm H [(55, .bool c2), (3, .bool f1), (13, .pointer (some ⟨b1, 0, none⟩))] [.box b1 [.int .i64 t1, .bool f1]] Fr) ?_ ?_
 ·rcases Bool.eq_false_or_eq_true c1 with hg2 | hg2
  ·replace hc2 := iteT hg2 hc2
   refine o_skip hS rfl rfl rfl hg2 ?_; clear hS; try clear tm
   intro tm hS
   refine o_skip hS rfl rfl rfl hg2 ?_; clear hS; try clear tm
   intro tm hS
   refine o_skip hS rfl rfl rfl hg2 ?_; clear hS; try clear tm
   intro tm hS
   refine o_skip hS rfl rfl rfl hg2 ?_; clear hS; try clear tm
   intro tm hS
   refine o_skip hS rfl rfl rfl hg2 ?_; clear hS; try clear tm
   intro tm hS
   refine o_skip hS rfl rfl rfl hg2 ?_; clear hS; try clear tm
   intro tm hS
   refine o_pickT hS (.inl rfl) rfl rfl hg2 rfl ?_; clear hS; try clear tm
   intro tm hS
   obtain rfl := Option.some.inj hc2
   exact o_nil (hS.keep (ka_cons rfl (ka_cons rfl (ka_cons rfl ka_nil))) (fun hI => (hI.sub (sc sn))))
  ·replace hc2 := iteF hg2 hc2
   refine o_ldA (k := 0) hS (.inr ⟨_, _, _, _, rfl, rfl, rfl, hg2⟩) rfl rfl rfl (.inl rfl) u47 rfl s47 rfl ?_; clear hS; try clear tm
   intro tm hS
   obtain ⟨r7, hx7, hc2⟩ := bindS hc2
   refine o_call hS (.inr ⟨_, _, _, _, rfl, rfl, rfl, hg2⟩) rfl (fun wm' hw1 hw2 => w38  (Sym.mk t1 f1)   (hS.sel hw2) hx7) (fun wm' res H hw' hp => ?_)
   obtain ⟨hres, hI⟩ := hp
   replace hres := hres.symm; subst hres
   replace hS : S wm 102 _ H ((50, .agg #[.int .i64 r7.Turn, .bool r7.Flip]) :: _) ([] ++ _) Fr := hS.after rfl hw' hI
   clear hI hw'
   refine o_ldA (k := 0) hS (.inr ⟨_, _, _, _, rfl, rfl, rfl, hg2⟩) rfl rfl rfl (.inl rfl) u47 rfl s47 rfl ?_; clear hS; try clear tm
   intro tm hS
   obtain ⟨r8, hx8, hc2⟩ := bindS hc2
   refine o_call hS (.inr ⟨_, _, _, _, rfl, rfl, rfl, hg2⟩) rfl (fun wm' hw1 hw2 => w37  r7 (Sym.mk t1 f1)   (hS.sel hw2) hx8) (fun wm' res H hw' hp => ?_)
   obtain ⟨hres, hI⟩ := hp
   replace hres := hres.symm; subst hres
   replace hS : S wm 102 _ H ((52, .agg #[.int .i64 r8.Turn, .bool r8.Flip]) :: _) ([] ++ _) Fr := hS.after rfl hw' hI
   clear hI hw'
   refine o_build hS (.inr ⟨_, _, _, _, rfl, rfl, rfl, hg2⟩) rfl b47 rfl .nil rfl ?_; clear hS; try clear tm
   intro tm hS
   refine o_eq2n hS (.inr ⟨_, _, _, _, rfl, rfl, rfl, hg2⟩) rfl rfl rfl q47 rfl ?_; clear hS; try clear tm
   intro tm hS
   refine o_pickF hS (.inl rfl) rfl rfl hg2 rfl ?_; clear hS; try clear tm
   intro tm hS
   obtain rfl := Option.some.inj hc2
   exact o_nil (hS.keep (ka_cons rfl (ka_cons rfl (ka_cons rfl ka_nil))) (fun hI => (hI.sub (sc sn))))
 intro tm H hS
 refine o_nil (hR _ _ ?_)
 clear hR R
 refine c_cond hS rfl (fun hc => ?_) (fun hc => ?_)
 ·replace h0 := iteT hc h0
  refine c_reg fun R hR => ?_
  refine o_pure hS (.inl rfl) rfl rfl ?_; clear hS; try clear tm
  intro tm hS
  refine o_nil (hR _ _ ?_)
  clear hR R
  refine wpC.ret ?_
  obtain rfl := Option.some.inj h0
  refine Exists.intro _ (And.intro (rs_tmp hS rfl rs_nil) ?_)
  have hI := hS.inv
  exact ⟨rfl, (hI.sub sn)⟩
 ·replace h0 := iteF hc h0
  refine wpC.skip ?_
  refine c_reg fun R hR => ?_
  refine o_ldA (k := 0) hS (.inl rfl) rfl rfl rfl (.inl rfl) u47 rfl s47 rfl ?_; clear hS; try clear tm
  intro tm hS
  refine o_build hS (.inl rfl) rfl b47 rfl .nil rfl ?_; clear hS; try clear tm
  intro tm hS
  obtain ⟨r9, hx9, h0⟩ := bindS h0
  refine o_call hS (.inl rfl) rfl (fun wm' hw1 hw2 => w37  (Sym.mk t1 f1) (Sym.mk 0 false)   (hS.sel hw2) hx9) (fun wm' res H hw' hp => ?_)
  obtain ⟨hres, hI⟩ := hp
  replace hres := hres.symm; subst hres
  replace hS : S wm 102 _ H ((58, .agg #[.int .i64 r9.Turn, .bool r9.Flip]) :: _) ([] ++ _) Fr := hS.after rfl hw' hI
  clear hI hw'
  refine o_alloc hS (.inl rfl) rfl z47 (by decide) ?_; clear hS; try clear tm H
  intro b4 tm H hS
  refine o_st (k := 0) hS (.inl rfl) rfl rfl rfl s47 rfl rfl (all_cons rfl (all_cons rfl all_nil)) rfl ?_; clear hS; try clear H
  intro H hS
  refine o_nil (hR _ _ ?_)
  clear hR R
  refine c_reg fun R hR => ?_
  refine o_pure hS (.inl rfl) rfl rfl ?_; clear hS; try clear tm
  intro tm hS
  refine o_nil (hR _ _ ?_)
  clear hR R
  refine c_reg fun R hR => ?_
  obtain ⟨r10, hx10, h0⟩ := bindS h0
  refine o_call hS (.inl rfl) rfl (fun wm' hw1 hw2 => w35 ho35    (hS.sel hw2) hx10) (fun wm' res H hw' hp => ?_)
  obtain ⟨v1, hres, hI⟩ := hp
  replace hres := hres.symm; subst hres
  replace hS : S wm 102 _ H ((59, v1) :: _) ([.own rSym v1 r10] ++ _) Fr := hS.after rfl hw' hI
  clear hI hw'
  refine o_pure hS (.inl rfl) rfl rfl ?_; clear hS; try clear tm
  intro tm hS
  refine o_nil (hR _ _ ?_)
  clear hR R
  refine c_seqS ?_
  refine c_reg fun R hR => ?_
  refine o_pure hS (.inl rfl) rfl rfl ?_; clear hS; try clear tm
  intro tm hS
  refine o_nil (hR _ _ ?_)
  clear hR R
  obtain ⟨k1, hw1, h0⟩ := bindS h0
  refine wpC.block ?_
  refine c_loop (I := fun (s : Int × Int) tm H => match (generalizing := false) s with | (found1, i1) => S wm 102 tm H [(3, .bool f1), (13, .pointer (some ⟨b1, 0, none⟩)), (16, .pointer (some ⟨b4, 0, none⟩)), (17, .int .i64 found1), (18, v1), (19, .int .i64 i1)] [.box b1 [.int .i64 t1, .bool f1], .box b4 [.int .i64 r9.Turn, .bool r9.Flip], .own rSym v1 r10] Fr) hw1 (by change S wm 102 _ _ _ _ Fr; exact hS.keep (ka_cons rfl (ka_cons rfl (ka_cons rfl (ka_cons rfl (ka_cons rfl (ka_cons rfl ka_nil)))))) (fun hI => ((((hI.pull 0 rfl).pull 1 rfl).pull 2 rfl).take 3))) ?_
  clear hS
  intro s1 tm H c3 hS h1 hq1
  obtain ⟨found1, i1⟩ := s1
  change S wm 102 tm H [(3, .bool f1), (13, .pointer (some ⟨b1, 0, none⟩)), (16, .pointer (some ⟨b4, 0, none⟩)), (17, .int .i64 found1), (18, v1), (19, .int .i64 i1)] [.box b1 [.int .i64 t1, .bool f1], .box b4 [.int .i64 r9.Turn, .bool r9.Flip], .own rSym v1 r10] Fr at hS
  refine c_seqS ?_
  refine c_reg fun R hR => ?_
  refine o_pure hS (.inl rfl) rfl rfl ?_; clear hS; try clear tm
  intro tm hS
  refine o_pure hS (.inl rfl) rfl rfl ?_; clear hS; try clear tm
  intro tm hS
  refine o_len (k := 2) (r := rSym) hS (.inl rfl) rfl rfl rfl (.inr (.inl rfl)) u56 rfl ?_; clear hS; try clear tm
  intro tm hS
  refine o_pure hS (.inl rfl) rfl rfl ?_; clear hS; try clear tm
  intro tm hS
  refine o_nil (hR _ _ ?_)
  clear hR R
  refine c_cond hS rfl (fun hc => ?_) (fun hc => ?_)
  ·replace h1 := iteT hc h1
   refine wpC.skip ?_
   refine c_seqS ?_
   refine wpC.block ?_
   refine c_reg fun R hR => ?_
   refine o_pure hS (.inl rfl) rfl rfl ?_; clear hS; try clear tm
   intro tm hS
   refine o_pure hS (.inl rfl) rfl rfl ?_; clear hS; try clear tm
   intro tm hS
   obtain ⟨y1, hx11, h1⟩ := bindS h1
   refine o_ixA (k := 2) (r := rSym) hS (.inl rfl) rfl rfl rfl rfl (.inr (.inl rfl)) u56 s47 hx11 ?_; clear hS; try clear tm
   intro tm hS
   refine o_ldFA (r := rSym) (k := 2) hS (.inl rfl) rfl rfl rfl (.inr (.inl rfl)) hx11 u47 rfl s47 rfl flat_Sym ?_; clear hS; try clear tm
   intro tm hS
   refine o_ldA (k := 1) hS (.inl rfl) rfl rfl rfl (.inl rfl) u47 rfl s47 rfl ?_; clear hS; try clear tm
   intro tm hS
   refine o_eq2 hS (.inl rfl) rfl rfl rfl q47 rfl ?_; clear hS; try clear tm
   intro tm hS
   refine o_nil (hR _ _ ?_)
   clear hR R
   refine c_cond hS rfl (fun hc => ?_) (fun hc => ?_)
   ·replace h1 := iteT hc h1
    refine c_reg1 fun R hR => ?_
    refine o_pure hS (.inl rfl) rfl rfl ?_; clear hS; try clear tm
    intro tm hS
    refine o_pure hS (.inl rfl) rfl rfl ?_; clear hS; try clear tm
    intro tm hS
    refine o_pure hS (.inl rfl) rfl rfl ?_; clear hS; try clear tm
    intro tm hS
    refine o_nil (hR _ _ ?_)
    clear hR R
    refine c_reg1 fun R hR => ?_
    refine o_pure hS (.inl rfl) rfl rfl ?_; clear hS; try clear tm
    intro tm hS
    refine o_pure hS (.inl rfl) rfl rfl ?_; clear hS; try clear tm
    intro tm hS
    refine o_pure hS (.inl rfl) rfl rfl ?_; clear hS; try clear tm
    intro tm hS
    refine o_nil (hR _ _ ?_)
    clear hR R
    obtain rfl := Option.some.inj h1
    refine ⟨_, rfl, ?_⟩
    change S wm 102 _ _ _ _ Fr; exact hS.keep (ka_cons rfl (ka_cons rfl (ka_cons rfl (ka_cons rfl (ka_cons rfl (ka_cons rfl ka_nil)))))) (fun hI => (hI.sub (sc (sc (sc sn)))))
   ·replace h1 := iteF hc h1
    refine wpC.skip ?_
    refine c_reg1 fun R hR => ?_
    refine o_pure hS (.inl rfl) rfl rfl ?_; clear hS; try clear tm
    intro tm hS
    refine o_pure hS (.inl rfl) rfl rfl ?_; clear hS; try clear tm
    intro tm hS
    refine o_pure hS (.inl rfl) rfl rfl ?_; clear hS; try clear tm
    intro tm hS
    refine o_nil (hR _ _ ?_)
    clear hR R
    obtain rfl := Option.some.inj h1
    refine ⟨_, rfl, ?_⟩
    change S wm 102 _ _ _ _ Fr; exact hS.keep (ka_cons rfl (ka_cons rfl (ka_cons rfl (ka_cons rfl (ka_cons rfl (ka_cons rfl ka_nil)))))) (fun hI => (hI.sub (sc (sc (sc sn)))))
  ·replace h1 := iteF hc h1
   refine wpC.exit ?_
   obtain rfl := Option.some.inj h1
   obtain rfl := hq1 _ rfl
   refine And.intro rfl (blk_eq ?_)
   replace h0 := joinN h0
   refine c_reg fun R hR => ?_
   refine o_pure hS (.inl rfl) rfl rfl ?_; clear hS; try clear tm
   intro tm hS
   refine o_pure hS (.inl rfl) rfl rfl ?_; clear hS; try clear tm
   intro tm hS
   refine o_pure hS (.inl rfl) rfl rfl ?_; clear hS; try clear tm
   intro tm hS
   obtain ⟨c4, hc3, h0⟩ := bindS h0
   refine o_cutN 6 (J := fun tm H => S wm 102 tm H [(82, .bool c4), (3, .bool f1), (16, .pointer (some ⟨b4, 0, none⟩))] [.box b4 [.int .i64 r9.Turn, .bool r9.Flip]] Fr) ?_ ?_
   ·rcases Bool.eq_false_or_eq_true (found1 == 1) with hg3 | hg3
    ·replace hc3 := iteT hg3 hc3
     refine o_build hS (.inr ⟨_, _, _, _, rfl, rfl, rfl, hg3⟩) rfl b47 rfl .nil rfl ?_; clear hS; try clear tm
     intro tm hS
     refine o_ldA (k := 0) hS (.inr ⟨_, _, _, _, rfl, rfl, rfl, hg3⟩) rfl rfl rfl (.inl rfl) u47 rfl s47 rfl ?_; clear hS; try clear tm
     intro tm hS
     obtain ⟨r11, hx12, hc3⟩ := bindS hc3
     refine o_call hS (.inr ⟨_, _, _, _, rfl, rfl, rfl, hg3⟩) rfl (fun wm' hw1 hw2 => w37  (Sym.mk 0 false) (Sym.mk t1 f1)   (hS.sel hw2) hx12) (fun wm' res H hw' hp => ?_)
     obtain ⟨hres, hI⟩ := hp
     replace hres := hres.symm; subst hres
     replace hS : S wm 102 _ H ((79, .agg #[.int .i64 r11.Turn, .bool r11.Flip]) :: _) ([] ++ _) Fr := hS.after rfl hw' hI
     clear hI hw'
     refine o_ldA (k := 1) hS (.inr ⟨_, _, _, _, rfl, rfl, rfl, hg3⟩) rfl rfl rfl (.inl rfl) u47 rfl s47 rfl ?_; clear hS; try clear tm
     intro tm hS
     refine o_eq2 hS (.inr ⟨_, _, _, _, rfl, rfl, rfl, hg3⟩) rfl rfl rfl q47 rfl ?_; clear hS; try clear tm
     intro tm hS
     refine o_pickT hS (.inl rfl) rfl rfl hg3 rfl ?_; clear hS; try clear tm
     intro tm hS
     obtain rfl := Option.some.inj hc3
     exact o_nil (hS.keep (ka_cons rfl (ka_cons rfl (ka_cons rfl ka_nil))) (fun hI => (hI.sub (sd (sc sn)))))
    ·replace hc3 := iteF hg3 hc3
     refine o_skip hS rfl rfl rfl hg3 ?_; clear hS; try clear tm
     intro tm hS
     refine o_skip hS rfl rfl rfl hg3 ?_; clear hS; try clear tm
     intro tm hS
     refine o_skip hS rfl rfl rfl hg3 ?_; clear hS; try clear tm
     intro tm hS
     refine o_skip hS rfl rfl rfl hg3 ?_; clear hS; try clear tm
     intro tm hS
     refine o_skip hS rfl rfl rfl hg3 ?_; clear hS; try clear tm
     intro tm hS
     refine o_pickF hS (.inl rfl) rfl rfl hg3 rfl ?_; clear hS; try clear tm
     intro tm hS
     obtain rfl := Option.some.inj hc3
     exact o_nil (hS.keep (ka_cons rfl (ka_cons rfl (ka_cons rfl ka_nil))) (fun hI => (hI.sub (sd (sc sn)))))
   intro tm H hS
   refine o_pure hS (.inl rfl) rfl rfl ?_; clear hS; try clear tm
   intro tm hS
   obtain ⟨c5, hc4⟩ : ∃ x : Bool, x = (c4 && (r9.Flip == f1)) := ⟨_, rfl⟩
   refine o_cutN 5 (J := fun tm H => S wm 102 tm H [(88, .bool c5), (16, .pointer (some ⟨b4, 0, none⟩))] [.box b4 [.int .i64 r9.Turn, .bool r9.Flip]] Fr) ?_ ?_
   ·rcases Bool.eq_false_or_eq_true c4 with hg4 | hg4
    ·refine o_pure hS (.inr ⟨_, _, _, _, rfl, rfl, rfl, hg4⟩) rfl rfl ?_; clear hS; try clear tm
     intro tm hS
     refine o_ld1 (k := 0) hS (.inr ⟨_, _, _, _, rfl, rfl, rfl, hg4⟩) rfl rfl rfl (.inl rfl) u4 rfl rfl ?_; clear hS; try clear tm
     intro tm hS
     refine o_pure hS (.inr ⟨_, _, _, _, rfl, rfl, rfl, hg4⟩) rfl rfl ?_; clear hS; try clear tm
     intro tm hS
     refine o_pure hS (.inr ⟨_, _, _, _, rfl, rfl, rfl, hg4⟩) rfl rfl ?_; clear hS; try clear tm
     intro tm hS
     refine o_pickT hS (.inl rfl) rfl rfl hg4 rfl ?_; clear hS; try clear tm
     intro tm hS
     have hc4 : c5 = (r9.Flip == f1) := hc4.trans (by rw [hg4]; first | rfl | simp)
     subst hc4
     exact o_nil (hS.keep (ka_cons rfl (ka_cons rfl ka_nil)) (fun hI => (hI.sub (sc sn))))
    ·refine o_skip hS rfl rfl rfl hg4 ?_; clear hS; try clear tm
     intro tm hS
     refine o_skip hS rfl rfl rfl hg4 ?_; clear hS; try clear tm
     intro tm hS
     refine o_skip hS rfl rfl rfl hg4 ?_; clear hS; try clear tm
     intro tm hS
     refine o_skip hS rfl rfl rfl hg4 ?_; clear hS; try clear tm
     intro tm hS
     refine o_pickF hS (.inl rfl) rfl rfl hg4 rfl ?_; clear hS; try clear tm
     intro tm hS
     have hc4 : c5 = false := hc4.trans (by rw [hg4]; first | rfl | simp)
     subst hc4
     exact o_nil (hS.keep (ka_cons rfl (ka_cons rfl ka_nil)) (fun hI => (hI.sub (sc sn))))
   intro tm H hS
   subst hc4
   refine o_pure hS (.inl rfl) rfl rfl ?_; clear hS; try clear tm
   intro tm hS
   obtain ⟨c6, hc5⟩ : ∃ x : Bool, x = ((c4 && (r9.Flip == f1)) && (decide (r9.Turn ≥ 0))) := ⟨_, rfl⟩
   refine o_cutN 4 (J := fun tm H => S wm 102 tm H [(93, .bool c6), (16, .pointer (some ⟨b4, 0, none⟩))] [.box b4 [.int .i64 r9.Turn, .bool r9.Flip]] Fr) ?_ ?_
   ·rcases Bool.eq_false_or_eq_true (c4 && (r9.Flip == f1)) with hg5 | hg5
    ·refine o_pure hS (.inr ⟨_, _, _, _, rfl, rfl, rfl, hg5⟩) rfl rfl ?_; clear hS; try clear tm
     intro tm hS
     refine o_ld1 (k := 0) hS (.inr ⟨_, _, _, _, rfl, rfl, rfl, hg5⟩) rfl rfl rfl (.inl rfl) u3 rfl rfl ?_; clear hS; try clear tm
     intro tm hS
     refine o_pure hS (.inr ⟨_, _, _, _, rfl, rfl, rfl, hg5⟩) rfl rfl ?_; clear hS; try clear tm
     intro tm hS
     refine o_pickT hS (.inl rfl) rfl rfl hg5 rfl ?_; clear hS; try clear tm
     intro tm hS
     have hc5 : c6 = (decide (r9.Turn ≥ 0)) := hc5.trans (by rw [hg5]; first | rfl | simp)
     subst hc5
     exact o_nil (hS.keep (ka_cons rfl (ka_cons rfl ka_nil)) (fun hI => (hI.sub (sc sn))))
    ·refine o_skip hS rfl rfl rfl hg5 ?_; clear hS; try clear tm
     intro tm hS
     refine o_skip hS rfl rfl rfl hg5 ?_; clear hS; try clear tm
     intro tm hS
     refine o_skip hS rfl rfl rfl hg5 ?_; clear hS; try clear tm
     intro tm hS
     refine o_pickF hS (.inl rfl) rfl rfl hg5 rfl ?_; clear hS; try clear tm
     intro tm hS
     have hc5 : c6 = false := hc5.trans (by rw [hg5]; first | rfl | simp)
     subst hc5
     exact o_nil (hS.keep (ka_cons rfl (ka_cons rfl ka_nil)) (fun hI => (hI.sub (sc sn))))
   intro tm H hS
   subst hc5
   refine o_pure hS (.inl rfl) rfl rfl ?_; clear hS; try clear tm
   intro tm hS
   obtain ⟨c7, hc6⟩ : ∃ x : Bool, x = (((c4 && (r9.Flip == f1)) && (decide (r9.Turn ≥ 0))) && (decide (r9.Turn < 4))) := ⟨_, rfl⟩
   refine o_cutN 4 (J := fun tm H => S wm 102 tm H [(98, .bool c7)] [] Fr) ?_ ?_
   ·rcases Bool.eq_false_or_eq_true ((c4 && (r9.Flip == f1)) && (decide (r9.Turn ≥ 0))) with hg6 | hg6
    ·refine o_pure hS (.inr ⟨_, _, _, _, rfl, rfl, rfl, hg6⟩) rfl rfl ?_; clear hS; try clear tm
     intro tm hS
     refine o_ld1 (k := 0) hS (.inr ⟨_, _, _, _, rfl, rfl, rfl, hg6⟩) rfl rfl rfl (.inl rfl) u3 rfl rfl ?_; clear hS; try clear tm
     intro tm hS
     refine o_pure hS (.inr ⟨_, _, _, _, rfl, rfl, rfl, hg6⟩) rfl rfl ?_; clear hS; try clear tm
     intro tm hS
     refine o_pickT hS (.inl rfl) rfl rfl hg6 rfl ?_; clear hS; try clear tm
     intro tm hS
     have hc6 : c7 = (decide (r9.Turn < 4)) := hc6.trans (by rw [hg6]; first | rfl | simp)
     subst hc6
     exact o_nil (hS.keep (ka_cons rfl ka_nil) (fun hI => (hI.sub sn)))
    ·refine o_skip hS rfl rfl rfl hg6 ?_; clear hS; try clear tm
     intro tm hS
     refine o_skip hS rfl rfl rfl hg6 ?_; clear hS; try clear tm
     intro tm hS
     refine o_skip hS rfl rfl rfl hg6 ?_; clear hS; try clear tm
     intro tm hS
     refine o_pickF hS (.inl rfl) rfl rfl hg6 rfl ?_; clear hS; try clear tm
     intro tm hS
     have hc6 : c7 = false := hc6.trans (by rw [hg6]; first | rfl | simp)
     subst hc6
     exact o_nil (hS.keep (ka_cons rfl ka_nil) (fun hI => (hI.sub sn)))
   intro tm H hS
   subst hc6
   refine o_pure hS (.inl rfl) rfl rfl ?_; clear hS; try clear tm
   intro tm hS
   obtain ⟨c8, hc7⟩ : ∃ x : Bool, x = ((((c4 && (r9.Flip == f1)) && (decide (r9.Turn ≥ 0))) && (decide (r9.Turn < 4))) && true) := ⟨_, rfl⟩
   refine o_cutN 2 (J := fun tm H => S wm 102 tm H [(101, .bool c8)] [] Fr) ?_ ?_
   ·rcases Bool.eq_false_or_eq_true (((c4 && (r9.Flip == f1)) && (decide (r9.Turn ≥ 0))) && (decide (r9.Turn < 4))) with hg7 | hg7
    ·refine o_call hS (.inr ⟨_, _, _, _, rfl, rfl, rfl, hg7⟩) rfl (fun wm' hw1 hw2 => wpF.told ho25 (Q := fun v H' => v = .bool true ∧ H' = H) ⟨rfl, rfl⟩) (fun wm' res H hw' hp => ?_)
     obtain ⟨rfl, rfl⟩ := hp
     replace hS := hS.put (d := 100) rfl (.bool true)
     clear hw'
     refine o_pickT hS (.inl rfl) rfl rfl hg7 rfl ?_; clear hS; try clear tm
     intro tm hS
     have hc7 : c8 = true := hc7.trans (by rw [hg7]; first | rfl | simp)
     subst hc7
     exact o_nil (hS.keep (ka_cons rfl ka_nil) (fun hI => (hI.sub sn)))
    ·refine o_skip hS rfl rfl rfl hg7 ?_; clear hS; try clear tm
     intro tm hS
     refine o_pickF hS (.inl rfl) rfl rfl hg7 rfl ?_; clear hS; try clear tm
     intro tm hS
     have hc7 : c8 = false := hc7.trans (by rw [hg7]; first | rfl | simp)
     subst hc7
     exact o_nil (hS.keep (ka_cons rfl ka_nil) (fun hI => (hI.sub sn)))
   intro tm H hS
   subst hc7
   refine o_pure hS (.inl rfl) rfl rfl ?_; clear hS; try clear tm
   intro tm hS
   refine o_nil (hR _ _ ?_)
   clear hR R
   refine wpC.ret ?_
   obtain rfl := Option.some.inj h0
   refine Exists.intro _ (And.intro (rs_tmp hS rfl rs_nil) ?_)
   have hI := hS.inv
   exact ⟨rfl, (hI.sub sn)⟩
end Go.Proofs.Ytlcpnakgolfofaa.planeGroup
