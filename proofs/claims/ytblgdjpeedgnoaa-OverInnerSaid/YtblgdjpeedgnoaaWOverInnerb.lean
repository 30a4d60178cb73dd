/- OverInner: walks of the code: the run of each function comes to what its plain function says. -/
import Derived.Test.YtblgdjpeedgnoaaWOverInnera
set_option maxHeartbeats 4000000
set_option linter.unusedVariables false
set_option linter.unusedSimpArgs false
set_option maxRecDepth 100000
open Go Go.Am Go.Proofs
namespace Go.Proofs.Ytblgdjpeedgnoaa.overInner
variable {ora : FuncId → Bool}
theorem wk45 {wm : Nat} {H : AHeap} {Fr : List Ent}  (v1 : Val)  (v2 : Value) (v3 : Value) (hI : Kn wm H [.fz (rI .i64) v2 v1.Shape, .fz (rI .i64) v3 v1.Data] Fr) {r : Am.Side} (h0 : M.over_left v1 = some r) :
  wpF Try.prog ora wm 45 [.agg #[.bool v1.Char, v2, v3]] H (fun res H => ∃ v5 v6 v7, res = .agg #[.bool r.v.Char, v5, v6, v7, .int .i64 r.n, .int .i64 r.size, .int .i64 r.across, .int .i64 r.inside] ∧ Kn wm H [.fz (rI .i64) v5 r.v.Shape, .fz (rI .i64) v6 r.v.Data, .fz (rI .i64) v7 r.s] Fr) := by
 unfold M.over_left at h0
 refine f_enter (n := 45) Try.func45 rfl (by simp) hI rfl rfl rfl fun tm hS => ?_
 clear hI
 refine c_reg fun R hR => ?_
 refine o_box hS (.inl rfl) rfl rfl rfl (all_cons rfl (all_cons (hS.one (k := 0) rfl (.inl rfl)) (all_cons (hS.one (k := 1) rfl (.inl rfl)) all_nil))) ?_; clear hS
 intro b1 tm H hS
 refine o_alloc hS (.inl rfl) rfl Fz87 (by decide) ?_; clear hS
 intro b2 tm H hS
 refine o_nil (hR _ _ ?_)
 clear hR R
 refine c_seqS ?_
 refine c_reg fun R hR => ?_
 refine pp1 hS rfl rfl ?_; clear hS
 intro tm hS
 refine o_ld1 (k := 1) hS (.inl rfl) rfl rfl rfl (.inl rfl) Fu22 rfl rfl ?_; clear hS
 intro tm hS
 refine o_len (k := 2) (r := (rI .i64)) hS (.inl rfl) rfl rfl rfl (.inl rfl) Fu22 rfl ?_; clear hS
 intro tm hS
 refine pp1 hS rfl rfl ?_; clear hS
 intro tm hS
 refine o_nil (hR _ _ ?_)
 clear hR R
 refine c_cond hS rfl (fun hc => ?_) (fun hc => ?_)
 ·replace h0 := iteT hc h0
  refine c_reg fun R hR => ?_
  refine o_ldA (k := 1) hS (.inl rfl) rfl rfl rfl (.inl rfl) Fu25 rfl Fs25 rfl ?_; clear hS
  intro tm hS
  refine o_build hS (.inl rfl) rfl Fb87 rfl (.cons rfl (.cons rfl (.cons rfl (.cons rfl (.cons rfl (.cons rfl .nil)))))) (fill_cons [.bool v1.Char, v2, v3, (.slice none 0 0), .int .i64 0, .int .i64 0, .int .i64 0, .int .i64 0] rfl rfl rfl (fill_cons [.bool v1.Char, v2, v3, (.slice none 0 0), .int .i64 0, .int .i64 0, .int .i64 0, .int .i64 0] rfl rfl rfl (fill_cons [.bool v1.Char, v2, v3, (.slice none 0 0), .int .i64 1, .int .i64 0, .int .i64 0, .int .i64 0] rfl rfl rfl (fill_cons [.bool v1.Char, v2, v3, (.slice none 0 0), .int .i64 1, .int .i64 1, .int .i64 0, .int .i64 0] rfl rfl rfl (fill_cons [.bool v1.Char, v2, v3, (.slice none 0 0), .int .i64 1, .int .i64 1, .int .i64 1, .int .i64 0] rfl rfl rfl (fill_cons [.bool v1.Char, v2, v3, (.slice none 0 0), .int .i64 1, .int .i64 1, .int .i64 1, .int .i64 0] rfl rfl rfl fill_nil)))))) ?_; clear hS
  intro tm hS
  refine o_stW (k := 0) hS (.inl rfl) rfl rfl rfl Fs87 rfl rfl (all_cons rfl (all_cons (hS.one (k := 2) rfl (.inl rfl)) (all_cons (hS.one (k := 3) rfl (.inl rfl)) (all_cons rfl (all_cons rfl (all_cons rfl (all_cons rfl (all_cons rfl all_nil)))))))) rfl ?_; clear hS; try clear H
  intro H hS
  refine o_nil (hR _ _ ?_)
  clear hR R
  refine wpC.ret ?_
  obtain rfl := Option.some.inj h0
  replace hS := hS.nilFz (rI .i64)
  refine Exists.intro _ (And.intro (rs_cellA (k := 1) hS rfl rfl (.inl rfl) Fu87 rfl Fs87 rfl rs_nil) ?_)
  have hI := hS.inv
  exact ⟨v2, v3, (.slice none 0 0), rfl, ((((hI.pull 0 rfl).pull 4 rfl).pull 4 rfl).take 3)⟩
 ·replace h0 := iteF hc h0
  refine wpC.skip ?_
  refine c_reg fun R hR => ?_
  refine pp1 hS rfl rfl ?_; clear hS
  intro tm hS
  refine o_ld1 (k := 1) hS (.inl rfl) rfl rfl rfl (.inl rfl) Fu22 rfl rfl ?_; clear hS
  intro tm hS
  refine o_len (k := 2) (r := (rI .i64)) hS (.inl rfl) rfl rfl rfl (.inl rfl) Fu22 rfl ?_; clear hS
  intro tm hS
  refine pp2 hS rfl rfl rfl rfl ?_; clear hS
  intro tm hS
  refine o_nil (hR _ _ ?_)
  clear hR R
  refine c_reg fun R hR => ?_
  refine pp1 hS rfl rfl ?_; clear hS
  intro tm hS
  refine o_ld1 (k := 1) hS (.inl rfl) rfl rfl rfl (.inl rfl) Fu22 rfl rfl ?_; clear hS
  intro tm hS
  refine pp1 hS rfl rfl ?_; clear hS
  intro tm hS
  obtain ⟨y1, hx1, h0⟩ := bindS h0
  refine o_ixA (k := 2) (r := (rI .i64)) hS (.inl rfl) rfl rfl rfl rfl (.inl rfl) Fu22 Fs3 hx1 ?_; clear hS
  intro tm hS
  refine o_ldF (r := (rI .i64)) (k := 2) hS (.inl rfl) rfl rfl rfl (.inl rfl) hx1 Fu3 rfl (flat_I _) rfl ?_; clear hS
  intro tm hS
  refine pp1 hS rfl rfl ?_; clear hS
  intro tm hS
  refine o_nil (hR _ _ ?_)
  clear hR R
  refine c_reg fun R hR => ?_
  refine pp1 hS rfl rfl ?_; clear hS
  intro tm hS
  refine o_ld1 (k := 1) hS (.inl rfl) rfl rfl rfl (.inl rfl) Fu22 rfl rfl ?_; clear hS
  intro tm hS
  refine pp1 hS rfl rfl ?_; clear hS
  intro tm hS
  obtain ⟨⟨r1, r2, r3, r4⟩, hx2, h0⟩ := bindS h0
  refine o_call hS (.inl rfl) rfl (fun wm' hw1 hw2 => wk36  v1.Shape (IntKind.i64.wrap ((v1.Shape.length : Int) - 1))  v2 ((hS.sel hw2).ad 2 rfl) hx2) (fun wm' res H hw' hp => ?_)
  obtain ⟨hres, hI⟩ := hp
  replace hres := hres.symm; subst hres
  replace hS : S wm 45 _ H ((28, .tuple #[.int .i64 r1, .int .i64 r2, .int .i64 r3, .bool r4]) :: _) ([] ++ _) Fr := hS.after rfl hw' hI
  clear hI hw'
  refine pp6 hS rfl rfl rfl rfl rfl rfl rfl rfl rfl rfl rfl rfl ?_; clear hS
  intro tm hS
  refine pp3 hS rfl rfl rfl rfl rfl rfl ?_; clear hS
  intro tm hS
  refine o_nil (hR _ _ ?_)
  clear hR R
  refine c_reg fun R hR => ?_
  refine o_ldA (k := 1) hS (.inl rfl) rfl rfl rfl (.inl rfl) Fu25 rfl Fs25 rfl ?_; clear hS
  intro tm hS
  refine pp1 hS rfl rfl ?_; clear hS
  intro tm hS
  refine o_ld1 (k := 1) hS (.inl rfl) rfl rfl rfl (.inl rfl) Fu22 rfl rfl ?_; clear hS
  intro tm hS
  refine pp2 hS rfl rfl rfl rfl ?_; clear hS
  intro tm hS
  obtain ⟨l1, hx3, h0⟩ := bindS h0
  refine o_sl3 (k := 2) (r := (rI .i64)) hS (.inl rfl) rfl rfl rfl Fu22 Fs3 rfl rfl rfl (by first | rfl | omega) hx3 ?_; clear hS
  intro v4 tm hS
  refine pp4 hS rfl rfl rfl rfl rfl rfl rfl rfl ?_; clear hS
  intro tm hS
  obtain ⟨r5, hx4, h0⟩ := bindS h0
  refine o_call hS (.inl rfl) rfl (fun wm' hw1 hw2 => wk74  y1 1   (hS.sel hw2) hx4) (fun wm' res H hw' hp => ?_)
  obtain ⟨hres, hI⟩ := hp
  replace hres := hres.symm; subst hres
  replace hS : S wm 45 _ H ((43, .int .i64 r5) :: _) ([] ++ _) Fr := hS.after rfl hw' hI
  clear hI hw'
  refine o_build hS (.inl rfl) rfl Fb87 rfl (.cons rfl (.cons (cells_one (hS.one (k := 0) rfl (.inl rfl))) (.cons rfl (.cons rfl (.cons rfl (.cons rfl .nil)))))) (fill_cons [.bool v1.Char, v2, v3, (.slice none 0 0), .int .i64 0, .int .i64 0, .int .i64 0, .int .i64 0] rfl rfl rfl (fill_cons [.bool v1.Char, v2, v3, v4, .int .i64 0, .int .i64 0, .int .i64 0, .int .i64 0] rfl rfl rfl (fill_cons [.bool v1.Char, v2, v3, v4, .int .i64 y1, .int .i64 0, .int .i64 0, .int .i64 0] rfl rfl rfl (fill_cons [.bool v1.Char, v2, v3, v4, .int .i64 y1, .int .i64 r1, .int .i64 0, .int .i64 0] rfl rfl rfl (fill_cons [.bool v1.Char, v2, v3, v4, .int .i64 y1, .int .i64 r1, .int .i64 y1, .int .i64 0] rfl rfl rfl (fill_cons [.bool v1.Char, v2, v3, v4, .int .i64 y1, .int .i64 r1, .int .i64 y1, .int .i64 r5] rfl rfl rfl fill_nil)))))) ?_; clear hS
  intro tm hS
  refine o_stW (k := 1) hS (.inl rfl) rfl rfl rfl Fs87 rfl rfl (all_cons rfl (all_cons (hS.one (k := 3) rfl (.inl rfl)) (all_cons (hS.one (k := 4) rfl (.inl rfl)) (all_cons (hS.one (k := 0) rfl (.inl rfl)) (all_cons rfl (all_cons rfl (all_cons rfl (all_cons rfl all_nil)))))))) rfl ?_; clear hS; try clear H
  intro H hS
  refine o_nil (hR _ _ ?_)
  clear hR R
  refine wpC.ret ?_
  obtain rfl := Option.some.inj h0
  refine Exists.intro _ (And.intro (rs_cellA (k := 1) hS rfl rfl (.inl rfl) Fu87 rfl Fs87 rfl rs_nil) ?_)
  have hI := hS.inv
  exact ⟨v2, v3, v4, rfl, ((((hI.pull 0 rfl).pull 4 rfl).pull 4 rfl).take 3)⟩
theorem wk46 {wm : Nat} {H : AHeap} {Fr : List Ent}  (v1 : Val)  (v2 : Value) (v3 : Value) (hI : Kn wm H [.fz (rI .i64) v2 v1.Shape, .fz (rI .i64) v3 v1.Data] Fr) {r : Am.Side} (h0 : M.over_right v1 = some r) :
  wpF Try.prog ora wm 46 [.agg #[.bool v1.Char, v2, v3]] H (fun res H => ∃ v5 v6 v7, res = .agg #[.bool r.v.Char, v5, v6, v7, .int .i64 r.n, .int .i64 r.size, .int .i64 r.across, .int .i64 r.inside] ∧ Kn wm H [.fz (rI .i64) v5 r.v.Shape, .fz (rI .i64) v6 r.v.Data, .fz (rI .i64) v7 r.s] Fr) := by
 unfold M.over_right at h0
 refine f_enter (n := 31) Try.func46 rfl (by simp) hI rfl rfl rfl fun tm hS => ?_
 clear hI
 refine c_reg fun R hR => ?_
 refine o_box hS (.inl rfl) rfl rfl rfl (all_cons rfl (all_cons (hS.one (k := 0) rfl (.inl rfl)) (all_cons (hS.one (k := 1) rfl (.inl rfl)) all_nil))) ?_; clear hS
 intro b1 tm H hS
 refine o_alloc hS (.inl rfl) rfl Fz87 (by decide) ?_; clear hS
 intro b2 tm H hS
 refine o_nil (hR _ _ ?_)
 clear hR R
 refine c_seqS ?_
 refine c_reg fun R hR => ?_
 refine pp1 hS rfl rfl ?_; clear hS
 intro tm hS
 refine o_ld1 (k := 1) hS (.inl rfl) rfl rfl rfl (.inl rfl) Fu22 rfl rfl ?_; clear hS
 intro tm hS
 refine o_len (k := 2) (r := (rI .i64)) hS (.inl rfl) rfl rfl rfl (.inl rfl) Fu22 rfl ?_; clear hS
 intro tm hS
 refine pp1 hS rfl rfl ?_; clear hS
 intro tm hS
 refine o_nil (hR _ _ ?_)
 clear hR R
 refine c_cond hS rfl (fun hc => ?_) (fun hc => ?_)
 ·replace h0 := iteT hc h0
  refine c_reg fun R hR => ?_
  refine o_ldA (k := 1) hS (.inl rfl) rfl rfl rfl (.inl rfl) Fu25 rfl Fs25 rfl ?_; clear hS
  intro tm hS
  refine o_build hS (.inl rfl) rfl Fb87 rfl (.cons rfl (.cons rfl (.cons rfl (.cons rfl (.cons rfl (.cons rfl .nil)))))) (fill_cons [.bool v1.Char, v2, v3, (.slice none 0 0), .int .i64 0, .int .i64 0, .int .i64 0, .int .i64 0] rfl rfl rfl (fill_cons [.bool v1.Char, v2, v3, (.slice none 0 0), .int .i64 0, .int .i64 0, .int .i64 0, .int .i64 0] rfl rfl rfl (fill_cons [.bool v1.Char, v2, v3, (.slice none 0 0), .int .i64 1, .int .i64 0, .int .i64 0, .int .i64 0] rfl rfl rfl (fill_cons [.bool v1.Char, v2, v3, (.slice none 0 0), .int .i64 1, .int .i64 1, .int .i64 0, .int .i64 0] rfl rfl rfl (fill_cons [.bool v1.Char, v2, v3, (.slice none 0 0), .int .i64 1, .int .i64 1, .int .i64 1, .int .i64 0] rfl rfl rfl (fill_cons [.bool v1.Char, v2, v3, (.slice none 0 0), .int .i64 1, .int .i64 1, .int .i64 1, .int .i64 0] rfl rfl rfl fill_nil)))))) ?_; clear hS
  intro tm hS
  refine o_stW (k := 0) hS (.inl rfl) rfl rfl rfl Fs87 rfl rfl (all_cons rfl (all_cons (hS.one (k := 2) rfl (.inl rfl)) (all_cons (hS.one (k := 3) rfl (.inl rfl)) (all_cons rfl (all_cons rfl (all_cons rfl (all_cons rfl (all_cons rfl all_nil)))))))) rfl ?_; clear hS; try clear H
  intro H hS
  refine o_nil (hR _ _ ?_)
  clear hR R
  refine wpC.ret ?_
  obtain rfl := Option.some.inj h0
  replace hS := hS.nilFz (rI .i64)
  refine Exists.intro _ (And.intro (rs_cellA (k := 1) hS rfl rfl (.inl rfl) Fu87 rfl Fs87 rfl rs_nil) ?_)
  have hI := hS.inv
  exact ⟨v2, v3, (.slice none 0 0), rfl, ((((hI.pull 0 rfl).pull 4 rfl).pull 4 rfl).take 3)⟩
 ·replace h0 := iteF hc h0
  refine wpC.skip ?_
  refine c_reg fun R hR => ?_
  refine pp1 hS rfl rfl ?_; clear hS
  intro tm hS
  refine o_ld1 (k := 1) hS (.inl rfl) rfl rfl rfl (.inl rfl) Fu22 rfl rfl ?_; clear hS
  intro tm hS
  obtain ⟨⟨r1, r2, r3, r4⟩, hx1, h0⟩ := bindS h0
  refine o_call hS (.inl rfl) rfl (fun wm' hw1 hw2 => wk36  v1.Shape 0  v2 ((hS.sel hw2).ad 2 rfl) hx1) (fun wm' res H hw' hp => ?_)
  obtain ⟨hres, hI⟩ := hp
  replace hres := hres.symm; subst hres
  replace hS : S wm 31 _ H ((16, .tuple #[.int .i64 r1, .int .i64 r2, .int .i64 r3, .bool r4]) :: _) ([] ++ _) Fr := hS.after rfl hw' hI
  clear hI hw'
  refine pp6 hS rfl rfl rfl rfl rfl rfl rfl rfl rfl rfl rfl rfl ?_; clear hS
  intro tm hS
  refine pp3 hS rfl rfl rfl rfl rfl rfl ?_; clear hS
  intro tm hS
  refine o_nil (hR _ _ ?_)
  clear hR R
  refine c_reg fun R hR => ?_
  refine o_ldA (k := 1) hS (.inl rfl) rfl rfl rfl (.inl rfl) Fu25 rfl Fs25 rfl ?_; clear hS
  intro tm hS
  refine pp1 hS rfl rfl ?_; clear hS
  intro tm hS
  refine o_ld1 (k := 1) hS (.inl rfl) rfl rfl rfl (.inl rfl) Fu22 rfl rfl ?_; clear hS
  intro tm hS
  obtain ⟨l1, hx2, h0⟩ := bindS h0
  refine o_sl (k := 2) (r := (rI .i64)) hS (.inl rfl) rfl rfl rfl Fu22 Fs3 rfl rfl hx2 ?_; clear hS
  intro v4 tm hS
  refine pp4 hS rfl rfl rfl rfl rfl rfl rfl rfl ?_; clear hS
  intro tm hS
  obtain ⟨r5, hx3, h0⟩ := bindS h0
  refine o_call hS (.inl rfl) rfl (fun wm' hw1 hw2 => wk74  r2 r3   (hS.sel hw2) hx3) (fun wm' res H hw' hp => ?_)
  obtain ⟨hres, hI⟩ := hp
  replace hres := hres.symm; subst hres
  replace hS : S wm 31 _ H ((29, .int .i64 r5) :: _) ([] ++ _) Fr := hS.after rfl hw' hI
  clear hI hw'
  refine o_build hS (.inl rfl) rfl Fb87 rfl (.cons rfl (.cons (cells_one (hS.one (k := 0) rfl (.inl rfl))) (.cons rfl (.cons rfl (.cons rfl (.cons rfl .nil)))))) (fill_cons [.bool v1.Char, v2, v3, (.slice none 0 0), .int .i64 0, .int .i64 0, .int .i64 0, .int .i64 0] rfl rfl rfl (fill_cons [.bool v1.Char, v2, v3, v4, .int .i64 0, .int .i64 0, .int .i64 0, .int .i64 0] rfl rfl rfl (fill_cons [.bool v1.Char, v2, v3, v4, .int .i64 r2, .int .i64 0, .int .i64 0, .int .i64 0] rfl rfl rfl (fill_cons [.bool v1.Char, v2, v3, v4, .int .i64 r2, .int .i64 r3, .int .i64 0, .int .i64 0] rfl rfl rfl (fill_cons [.bool v1.Char, v2, v3, v4, .int .i64 r2, .int .i64 r3, .int .i64 1, .int .i64 0] rfl rfl rfl (fill_cons [.bool v1.Char, v2, v3, v4, .int .i64 r2, .int .i64 r3, .int .i64 1, .int .i64 r5] rfl rfl rfl fill_nil)))))) ?_; clear hS
  intro tm hS
  refine o_stW (k := 1) hS (.inl rfl) rfl rfl rfl Fs87 rfl rfl (all_cons rfl (all_cons (hS.one (k := 3) rfl (.inl rfl)) (all_cons (hS.one (k := 4) rfl (.inl rfl)) (all_cons (hS.one (k := 0) rfl (.inl rfl)) (all_cons rfl (all_cons rfl (all_cons rfl (all_cons rfl all_nil)))))))) rfl ?_; clear hS; try clear H
  intro H hS
  refine o_nil (hR _ _ ?_)
  clear hR R
  refine wpC.ret ?_
  obtain rfl := Option.some.inj h0
  refine Exists.intro _ (And.intro (rs_cellA (k := 1) hS rfl rfl (.inl rfl) Fu87 rfl Fs87 rfl rs_nil) ?_)
  have hI := hS.inv
  exact ⟨v2, v3, v4, rfl, ((((hI.pull 0 rfl).pull 4 rfl).pull 4 rfl).take 3)⟩
theorem wk70 {wm : Nat} {H : AHeap} {Fr : List Ent} (s1 : (List Int)) (n1 : Int) (hI : Kn wm H [] Fr) {r : (List Int)} (h0 : M.slices_Grow__int s1 n1 = some r) :
  wpF Try.prog ora wm 70 [.slice none 0 0, .int .i64 n1] H (fun res H => ∃ v2, res = v2 ∧ Kn wm H [.own (rI .i64) v2 r] Fr) := by
 unfold M.slices_Grow__int grow at h0
 split at h0
 case isFalse => cases h0
 rename_i hn
 obtain rfl := Option.some.inj h0
 refine f_enter (n := 27) Try.func70 rfl (by simp) hI rfl rfl rfl fun tm hS => ?_
 refine c_reg fun R hR => ?_
 refine o_pure hS (.inl rfl) rfl rfl fun tm hS => ?_
 refine o_nil (hR _ _ ?_)
 refine c_seqS ?_
 refine c_reg fun R hR => ?_
 refine o_pure hS (.inl rfl) rfl rfl fun tm hS => ?_
 refine o_pure hS (.inl rfl) rfl rfl fun tm hS => ?_
 refine o_nil (hR _ _ ?_)
 refine c_cond hS rfl (fun hc => ?_) (fun hc => ?_)
 ·exfalso
  have : n1 < 0 := by simpa using hc
  omega
 refine wpC.skip ?_
 refine c_seqS ?_
 refine c_reg fun R hR => ?_
 refine o_pure hS (.inl rfl) rfl rfl fun tm hS => ?_
 refine o_pure hS (.inl rfl) rfl rfl fun tm hS => ?_
 refine o_capNil hS (.inl rfl) rfl rfl rfl Fu22 fun tm hS => ?_
 refine o_pure hS (.inl rfl) rfl rfl fun tm hS => ?_
 replace hS := hS.nilFz (rI .i64)
 refine o_len (k := 0) (r := (rI .i64)) hS (.inl rfl) rfl rfl rfl (.inl rfl) Fu22 rfl fun tm hS => ?_
 refine o_pure hS (.inl rfl) rfl rfl fun tm hS => ?_
 refine o_pure hS (.inl rfl) rfl rfl fun tm hS => ?_
 have he : IntKind.i64.wrap (n1 - IntKind.i64.wrap (0 - (([] : (List Int)).length : Int))) = n1 := by
  have h1 : IntKind.i64.wrap (0 - (([] : (List Int)).length : Int)) = 0 := by rw [IntKind.wrap_i64] <;> simp
  rw [h1, IntKind.wrap_i64] <;> omega
 rw [he] at hS
 refine o_pure hS (.inl rfl) rfl rfl fun tm hS => ?_
 refine o_nil (hR _ _ ?_)
 refine c_reg fun R hR => ?_
 refine o_pure hS (.inl rfl) rfl rfl fun tm hS => ?_
 refine o_pure hS (.inl rfl) rfl rfl fun tm hS => ?_
 refine o_nil (hR _ _ ?_)
 refine c_cond hS rfl (fun hc => ?_) (fun hc => ?_)
 ·have hk : 0 < n1 := by
   have : n1 > 0 := by simpa using hc
   omega
  refine c_reg1 fun R hR => ?_
  refine o_pure hS (.inl rfl) rfl rfl fun tm hS => ?_
  refine o_pure hS (.inl rfl) rfl rfl fun tm hS => ?_
  refine o_capNil hS (.inl rfl) rfl rfl rfl Fu22 fun tm hS => ?_
  refine o_sliceV hS (.inl rfl) rfl rfl (vlo := []) (vhi := [.int .i64 0]) (vmx := []) rfl rfl rfl (v := .slice none 0 0) (by
   have e : bnd 0 (some (.int .i64 ((0 : Nat) : Int))) = some (some 0) := bnd_some (Nat.le_refl 0)
   unfold aSlice
   simp only [Fu22, Fs3, List.head?_nil, List.head?_cons, bnd, Option.isSome_none, Option.isNone_none, Bool.and_true, Bool.and_false, Bool.false_eq_true, if_false, Option.getD_some, Option.getD_none]
   simp) fun tm hS => ?_
  refine o_pure hS (.inl rfl) rfl rfl fun tm hS => ?_
  refine o_appZ (r := (rI .i64)) hS (.inl rfl) rfl rfl rfl rfl Fu3 Fm22 rfl rfl hk hn.2 fun b cells tm H hg hS => ?_
  refine o_pure hS (.inl rfl) rfl rfl fun tm hS => ?_
  refine o_len (k := 1) (r := (rI .i64)) hS (.inl rfl) rfl rfl rfl (.inl rfl) Fu22 rfl fun tm hS => ?_
  refine o_sliceV hS (.inl rfl) rfl rfl (vlo := []) (vhi := [.int .i64 (([] : (List Int)).length : Int)]) (vmx := []) rfl rfl rfl (aSlice_row Fu22 Fs3 hg (m := none) (h := some 0) (l := none) rfl rfl (bnd_some (by simp)) rfl) fun tm hS => ?_
  simp only [Option.getD_none, Option.getD_some, Nat.sub_zero, Nat.zero_mul, Nat.add_zero] at hS ⊢
  refine o_pure hS (.inl rfl) rfl rfl fun tm hS => ?_
  refine o_nil (hR _ _ ?_)
  refine c_reg fun R hR => ?_
  refine o_pure hS (.inl rfl) rfl rfl fun tm hS => ?_
  refine o_pure hS (.inl rfl) rfl rfl fun tm hS => ?_
  refine o_nil (hR _ _ ?_)
  refine wpC.ret ?_
  refine Exists.intro _ (And.intro (rs_tmp hS rfl rs_nil) ?_)
  exact ⟨_, rfl, hS.inv.take 1⟩
 ·refine wpC.skip ?_
  refine c_reg fun R hR => ?_
  refine o_pure hS (.inl rfl) rfl rfl fun tm hS => ?_
  refine o_pure hS (.inl rfl) rfl rfl fun tm hS => ?_
  refine o_nil (hR _ _ ?_)
  refine wpC.ret ?_
  replace hS := hS.nilOwn (rI .i64)
  refine Exists.intro _ (And.intro (rs_tmp hS rfl rs_nil) ?_)
  exact ⟨_, rfl, hS.inv.take 1⟩
theorem wk39 {wm : Nat} {H : AHeap} {Fr : List Ent}  (slices1 : (List (List Int)))  (v1 : Value) (hI : Kn wm H [.fz (rL (rI .i64)) v1 slices1] Fr) {r : (List Int)} (h0 : M.slices_Concat__int slices1 = some r) :
  wpF Try.prog ora wm 39 [v1] H (fun res H => ∃ v7, res = v7 ∧ Kn wm H [.own (rI .i64) v7 r] Fr) := by
 unfold M.slices_Concat__int at h0
 refine f_enter (n := 36) Try.func39 rfl (by simp) hI rfl rfl rfl fun tm hS => ?_
 clear hI
 refine cr1 hS rfl rfl ?_; clear hS
 intro tm hS
 refine cr1 hS rfl rfl ?_; clear hS
 intro tm hS
 refine c_seqS ?_
 refine c_reg fun R hR => ?_
 refine pp1 hS rfl rfl ?_; clear hS
 intro tm hS
 refine o_len (k := 0) (r := (rL (rI .i64))) hS (.inl rfl) rfl rfl rfl (.inl rfl) Fu113 rfl ?_; clear hS
 intro tm hS
 refine pp1 hS rfl rfl ?_; clear hS
 intro tm hS
 refine o_nil (hR _ _ ?_)
 clear hR R
 obtain ⟨k1, hw1, h0⟩ := bindS h0
 refine wpC.block ?_
 refine c_loop (I := fun (s : Int × Int) tm H => match (generalizing := false) s with | (size1, t1) => S wm 36 tm H [(0, v1), (3, .int .i64 size1), (9, v1), (10, .int .i64 (slices1.length : Int)), (11, .int .i64 t1)] [.fz (rL (rI .i64)) v1 slices1] Fr) hw1 (by change S wm 36 _ _ _ _ Fr; exact hS.keep (k5 rfl rfl rfl rfl rfl) (fun hI => (hI.sub (sc sn)))) ?_
 clear hS
 intro s1 tm H c1 hS h1 hq1
 obtain ⟨size1, t1⟩ := s1
 change S wm 36 tm H [(0, v1), (3, .int .i64 size1), (9, v1), (10, .int .i64 (slices1.length : Int)), (11, .int .i64 t1)] [.fz (rL (rI .i64)) v1 slices1] Fr at hS
 refine cr1 hS rfl rfl ?_; clear hS
 intro tm hS
 refine c_seqS ?_
 refine c_cond hS rfl (fun hc => ?_) (fun hc => ?_)
 ·replace h1 := iteT hc h1
  refine wpC.skip ?_
  refine c_seqS ?_
  refine wpC.block ?_
  refine c_reg fun R hR => ?_
  obtain ⟨y1, hx1, h1⟩ := bindS h1
  refine o_ixA (k := 0) (r := (rL (rI .i64))) hS (.inl rfl) rfl rfl rfl rfl (.inl rfl) Fu113 Fs22 hx1 ?_; clear hS
  intro tm hS
  refine o_ldS (k := 0) hS (.inl rfl) rfl rfl rfl (.inl rfl) hx1 Fu22 rfl ?_; clear hS
  intro v2 tm hS
  refine pp1 hS rfl rfl ?_; clear hS
  intro tm hS
  refine o_nil (hR _ _ ?_)
  clear hR R
  refine c_reg fun R hR => ?_
  refine pp2 hS rfl rfl rfl rfl ?_; clear hS
  intro tm hS
  refine o_len (k := 0) (r := (rI .i64)) hS (.inl rfl) rfl rfl rfl (.inl rfl) Fu22 rfl ?_; clear hS
  intro tm hS
  refine pp2 hS rfl rfl rfl rfl ?_; clear hS
  intro tm hS
  refine o_nil (hR _ _ ?_)
  clear hR R
  refine cr2 hS rfl rfl rfl rfl ?_; clear hS
  intro tm hS
  refine c_cond hS rfl (fun hc => ?_) (fun hc => ?_)
  ·replace h1 := iteT hc h1
   cases h1
  ·replace h1 := iteF hc h1
   refine wpC.skip ?_
   refine cs2 hS rfl rfl rfl rfl ?_; clear hS
   intro tm hS
   obtain rfl := Option.some.inj h1
   refine ⟨_, rfl, ?_⟩
   change S wm 36 _ _ _ _ Fr; exact hS.keep (k5 rfl rfl rfl rfl rfl) (fun hI => (hI.sub (sd (sc sn))))
 ·replace h1 := iteF hc h1
  refine wpC.exit ?_
  refine seqX ?_
  obtain rfl := Option.some.inj h1
  obtain rfl := hq1 _ rfl
  refine And.intro rfl (blk_eq ?_)
  replace h0 := joinN h0
  refine c_reg fun R hR => ?_
  refine pp1 hS rfl rfl ?_; clear hS
  intro tm hS
  obtain ⟨r1, hx2, h0⟩ := bindS h0
  refine o_call hS (.inl rfl) rfl (fun wm' hw1 hw2 => wk70  ([]) size1   (hS.sel hw2) hx2) (fun wm' res H hw' hp => ?_)
  obtain ⟨v3, hres, hI⟩ := hp
  replace hres := hres.symm; subst hres
  replace hS : S wm 36 _ H ((24, v3) :: _) ([.own (rI .i64) v3 r1] ++ _) Fr := hS.after rfl hw' hI
  clear hI hw'
  refine pp1 hS rfl rfl ?_; clear hS
  intro tm hS
  refine o_nil (hR _ _ ?_)
  clear hR R
  refine c_seqS ?_
  refine c_reg fun R hR => ?_
  refine pp1 hS rfl rfl ?_; clear hS
  intro tm hS
  refine o_len (k := 1) (r := (rL (rI .i64))) hS (.inl rfl) rfl rfl rfl (.inl rfl) Fu113 rfl ?_; clear hS
  intro tm hS
  refine pp1 hS rfl rfl ?_; clear hS
  intro tm hS
  refine o_nil (hR _ _ ?_)
  clear hR R
  obtain ⟨k2, hw2, h0⟩ := bindS h0
  refine wpC.block ?_
  refine c_loop (I := fun (s : (List Int) × Int) tm H => match (generalizing := false) s with | (newslice1, t2) => ∃ v4, S wm 36 tm H [(6, v4), (25, v1), (26, .int .i64 (slices1.length : Int)), (27, .int .i64 t2)] [.own (rI .i64) v4 newslice1, .fz (rL (rI .i64)) v1 slices1] Fr) hw2 (by refine Exists.intro v3 ?_; change S wm 36 _ _ _ _ Fr; exact hS.keep (k4 rfl rfl rfl rfl) (fun hI => (hI.sub (sc (sc sn))))) ?_
  clear hS
  intro s2 tm H c2 hS h3 hq3
  obtain ⟨newslice1, t2⟩ := s2
  obtain ⟨v4, hS⟩ := hS
  change S wm 36 tm H [(6, v4), (25, v1), (26, .int .i64 (slices1.length : Int)), (27, .int .i64 t2)] [.own (rI .i64) v4 newslice1, .fz (rL (rI .i64)) v1 slices1] Fr at hS
  refine cr1 hS rfl rfl ?_; clear hS
  intro tm hS
  refine c_seqS ?_
  refine c_cond hS rfl (fun hc => ?_) (fun hc => ?_)
  ·replace h3 := iteT hc h3
   refine wpC.skip ?_
   refine c_seqS ?_
   refine wpC.block ?_
   refine c_reg fun R hR => ?_
   obtain ⟨y2, hx3, h3⟩ := bindS h3
   refine o_ixA (k := 1) (r := (rL (rI .i64))) hS (.inl rfl) rfl rfl rfl rfl (.inl rfl) Fu113 Fs22 hx3 ?_; clear hS
   intro tm hS
   refine o_ldS (k := 1) hS (.inl rfl) rfl rfl rfl (.inl rfl) hx3 Fu22 rfl ?_; clear hS
   intro v5 tm hS
   refine pp1 hS rfl rfl ?_; clear hS
   intro tm hS
   refine o_nil (hR _ _ ?_)
   clear hR R
   refine c_reg1 fun R hR => ?_
   refine pp2 hS rfl rfl rfl rfl ?_; clear hS
   intro tm hS
   obtain ⟨l1, hx4, h3⟩ := bindS h3
   refine o_app (k1 := 1) (k2 := 0) (r := (rI .i64)) hS (.inl rfl) rfl rfl rfl rfl rfl (.inl rfl) rfl Fe22_22 rfl hx4 ?_; clear hS
   intro v6 tm H hS
   refine pp1 hS rfl rfl ?_; clear hS
   intro tm hS
   refine o_nil (hR _ _ ?_)
   clear hR R
   refine cs2 hS rfl rfl rfl rfl ?_; clear hS
   intro tm hS
   obtain rfl := Option.some.inj h3
   refine ⟨_, rfl, ?_⟩
   refine Exists.intro v6 ?_; change S wm 36 _ _ _ _ Fr; exact hS.keep (k4 rfl rfl rfl rfl) (fun hI => (hI.sub (sd (sc (sc sn)))))
  ·replace h3 := iteF hc h3
   refine wpC.exit ?_
   refine seqX ?_
   obtain rfl := Option.some.inj h3
   obtain rfl := hq3 _ rfl
   refine And.intro rfl (blk_eq ?_)
   replace h0 := joinN h0
   refine cr2 hS rfl rfl rfl rfl ?_; clear hS
   intro tm hS
   refine wpC.ret ?_
   obtain rfl := Option.some.inj h0
   refine Exists.intro _ (And.intro (rs_tmp hS rfl rs_nil) ?_)
   have hI := hS.inv
   exact ⟨v4, rfl, (hI.sub (sc sn))⟩
theorem wk40 {wm : Nat} {H : AHeap} {Fr : List Ent}  (v1 : Val) (k1 : Int)  (v2 : Value) (v3 : Value) (hI : Kn wm H [.fz (rI .i64) v2 v1.Shape, .fz (rI .i64) v3 v1.Data] Fr) {r : Am.Item} (h0 : M.over_at v1 k1 = some r) :
  wpF Try.prog ora wm 40 [.agg #[.bool v1.Char, v2, v3], .int .i64 k1] H (fun res H => res = .agg #[.int .i64 r.n, .bool r.char] ∧ Kn wm H [] Fr) := by
 unfold M.over_at at h0
 refine f_enter (n := 13) Try.func40 rfl (by simp) hI rfl rfl rfl fun tm hS => ?_
 clear hI
 refine c_reg fun R hR => ?_
 refine o_box hS (.inl rfl) rfl rfl rfl (all_cons rfl (all_cons (hS.one (k := 0) rfl (.inl rfl)) (all_cons (hS.one (k := 1) rfl (.inl rfl)) all_nil))) ?_; clear hS
 intro b1 tm H hS
 refine o_alloc hS (.inl rfl) rfl Fz72 (by decide) ?_; clear hS
 intro b2 tm H hS
 refine o_nil (hR _ _ ?_)
 clear hR R
 refine c_reg fun R hR => ?_
 refine pp1 hS rfl rfl ?_; clear hS
 intro tm hS
 refine o_ld1 (k := 1) hS (.inl rfl) rfl rfl rfl (.inl rfl) Fu23 rfl rfl ?_; clear hS
 intro tm hS
 refine pp1 hS rfl rfl ?_; clear hS
 intro tm hS
 obtain ⟨y1, hx1, h0⟩ := bindS h0
 refine o_ixA (k := 3) (r := (rI .i64)) hS (.inl rfl) rfl rfl rfl rfl (.inl rfl) Fu23 Fs2 hx1 ?_; clear hS
 intro tm hS
 refine o_ldF (r := (rI .i64)) (k := 3) hS (.inl rfl) rfl rfl rfl (.inl rfl) hx1 Fu2 rfl (flat_I _) rfl ?_; clear hS
 intro tm hS
 refine pp1 hS rfl rfl ?_; clear hS
 intro tm hS
 refine o_ld1 (k := 1) hS (.inl rfl) rfl rfl rfl (.inl rfl) Fu4 rfl rfl ?_; clear hS
 intro tm hS
 refine o_build hS (.inl rfl) rfl Fb72 rfl (.cons rfl (.cons rfl .nil)) rfl ?_; clear hS
 intro tm hS
 refine o_st (k := 0) hS (.inl rfl) rfl rfl rfl Fs72 rfl rfl (all_cons rfl (all_cons rfl all_nil)) rfl ?_; clear hS; try clear H
 intro H hS
 refine o_nil (hR _ _ ?_)
 clear hR R
 refine wpC.ret ?_
 obtain rfl := Option.some.inj h0
 refine Exists.intro _ (And.intro (rs_cellA (k := 0) hS rfl rfl (.inl rfl) Fu72 rfl Fs72 rfl rs_nil) ?_)
 have hI := hS.inv
 exact ⟨rfl, (hI.sub sn)⟩
theorem wk37 {wm : Nat} {H : AHeap} {Fr : List Ent} (ho100 : ora 100 = false) (fn1 : ByteArray) (f1 : (Option ByteArray)) (l1 : (List Am.Item))  (v1 : Value) (v2 : Value) (hI : Kn wm H [.el (rClo 87) [v1] f1, .fz rItem v2 l1] Fr) {r : Am.Item × Int} (h0 : M.over_reduced fn1 f1 l1 = some r) :
  wpF Try.prog ora wm 37 [.string fn1, v1, v2] H (fun res H => res = .tuple #[.agg #[.int .i64 r.1.n, .bool r.1.char], .int .i64 r.2] ∧ Kn wm H [] Fr) := by
 unfold M.over_reduced at h0
 refine f_enter (n := 52) Try.func37 rfl (by simp) hI rfl rfl rfl fun tm hS => ?_
 clear hI
 refine c_reg fun R hR => ?_
 refine o_alloc hS (.inl rfl) rfl Fz72 (by decide) ?_; clear hS
 intro b1 tm H hS
 refine pp1 hS rfl rfl ?_; clear hS
 intro tm hS
 refine o_nil (hR _ _ ?_)
 clear hR R
 refine c_seqS ?_
 refine c_reg fun R hR => ?_
 refine pp1 hS rfl rfl ?_; clear hS
 intro tm hS
 refine o_len (k := 2) (r := rItem) hS (.inl rfl) rfl rfl rfl (.inl rfl) Fu75 rfl ?_; clear hS
 intro tm hS
 refine pp1 hS rfl rfl ?_; clear hS
 intro tm hS
 refine o_nil (hR _ _ ?_)
 clear hR R
 refine c_cond hS rfl (fun hc => ?_) (fun hc => ?_)
 ·replace h0 := iteT hc h0
  refine c_reg fun R hR => ?_
  refine pp1 hS rfl rfl ?_; clear hS
  intro tm hS
  obtain ⟨⟨r1, r2⟩, hx1, h0⟩ := bindS h0
  refine o_call hS (.inl rfl) rfl (fun wm' hw1 hw2 => wk69  fn1   (hS.sel hw2) hx1) (fun wm' res H hw' hp => ?_)
  obtain ⟨hres, hI⟩ := hp
  replace hres := hres.symm; subst hres
  replace hS : S wm 52 _ H ((18, .tuple #[.int .i64 r1, .int .i64 r2]) :: _) ([] ++ _) Fr := hS.after rfl hw' hI
  clear hI hw'
  refine pp5 hS rfl rfl rfl rfl rfl rfl rfl rfl rfl rfl ?_; clear hS
  intro tm hS
  refine o_nil (hR _ _ ?_)
  clear hR R
  refine c_reg fun R hR => ?_
  refine pp1 hS rfl rfl ?_; clear hS
  intro tm hS
  refine o_build hS (.inl rfl) rfl Fb72 rfl (.cons rfl .nil) rfl ?_; clear hS
  intro tm hS
  refine pp1 hS rfl rfl ?_; clear hS
  intro tm hS
  refine o_st (k := 0) hS (.inl rfl) rfl rfl rfl Fs72 rfl rfl (all_cons rfl (all_cons rfl all_nil)) rfl ?_; clear hS; try clear H
  intro H hS
  refine pp1 hS rfl rfl ?_; clear hS
  intro tm hS
  refine o_nil (hR _ _ ?_)
  clear hR R
  refine wpC.ret ?_
  obtain rfl := Option.some.inj h0
  refine Exists.intro _ (And.intro (rs_cellA (k := 0) hS rfl rfl (.inl rfl) Fu72 rfl Fs72 rfl (rs_tmp hS rfl rs_nil)) ?_)
  have hI := hS.inv
  exact ⟨rfl, (hI.sub sn)⟩
 ·replace h0 := iteF hc h0
  refine wpC.skip ?_
  refine c_reg fun R hR => ?_
  refine pp2 hS rfl rfl rfl rfl ?_; clear hS
  intro tm hS
  refine o_len (k := 2) (r := rItem) hS (.inl rfl) rfl rfl rfl (.inl rfl) Fu75 rfl ?_; clear hS
  intro tm hS
  refine pp1 hS rfl rfl ?_; clear hS
  intro tm hS
  obtain ⟨y1, hx2, h0⟩ := bindS h0
  refine o_ixA (k := 2) (r := rItem) hS (.inl rfl) rfl rfl rfl rfl (.inl rfl) Fu75 Fs72 hx2 ?_; clear hS
  intro tm hS
  refine o_ldFA (r := rItem) (k := 2) hS (.inl rfl) rfl rfl rfl (.inl rfl) hx2 Fu72 rfl Fs72 rfl flat_Item ?_; clear hS
  intro tm hS
  refine o_alloc hS (.inl rfl) rfl Fz72 (by decide) ?_; clear hS
  intro b2 tm H hS
  refine o_st (k := 0) hS (.inl rfl) rfl rfl rfl Fs72 rfl rfl (all_cons rfl (all_cons rfl all_nil)) rfl ?_; clear hS; try clear H
  intro H hS
  refine o_nil (hR _ _ ?_)
  clear hR R
  refine c_seqS ?_
  refine c_reg fun R hR => ?_
  refine pp1 hS rfl rfl ?_; clear hS
  intro tm hS
  refine o_len (k := 3) (r := rItem) hS (.inl rfl) rfl rfl rfl (.inl rfl) Fu75 rfl ?_; clear hS
  intro tm hS
  refine pp2 hS rfl rfl rfl rfl ?_; clear hS
  intro tm hS
  refine o_nil (hR _ _ ?_)
  clear hR R
  obtain ⟨k1, hw1, h0⟩ := bindS h0
  refine wpC.block ?_
  refine c_loop (I := fun (s : Int × Int × Bool) tm H => match (generalizing := false) s with | (i1, n1, char1) => S wm 52 tm H [(1, v1), (2, v2), (6, .pointer (some ⟨b1, 0, none⟩)), (10, .pointer (some ⟨b2, 0, none⟩)), (11, .int .i64 i1)] [.box b1 [.int .i64 0, .bool false], .box b2 [.int .i64 n1, .bool char1], .el (rClo 87) [v1] f1, .fz rItem v2 l1] Fr) hw1 (by change S wm 52 _ _ _ _ Fr; exact hS.keep (k5 rfl rfl rfl rfl rfl) (fun hI => (((((hI.pull 3 rfl).pull 3 rfl).pull 2 rfl).pull 3 rfl).take 4))) ?_
  clear hS
  intro s1 tm H c1 hS h1 hq1
  obtain ⟨i1, n1, char1⟩ := s1
  change S wm 52 tm H [(1, v1), (2, v2), (6, .pointer (some ⟨b1, 0, none⟩)), (10, .pointer (some ⟨b2, 0, none⟩)), (11, .int .i64 i1)] [.box b1 [.int .i64 0, .bool false], .box b2 [.int .i64 n1, .bool char1], .el (rClo 87) [v1] f1, .fz rItem v2 l1] Fr at hS
  refine c_seqS ?_
  refine cr2 hS rfl rfl rfl rfl ?_; clear hS
  intro tm hS
  refine c_cond hS rfl (fun hc => ?_) (fun hc => ?_)
  ·replace h1 := iteT hc h1
   refine wpC.skip ?_
   refine c_seqS ?_
   refine wpC.block ?_
   refine cr1 hS rfl rfl ?_; clear hS
   intro tm hS
   refine c_reg fun R hR => ?_
   refine pp3 hS rfl rfl rfl rfl rfl rfl ?_; clear hS
   intro tm hS
   obtain ⟨y2, hx3, h1⟩ := bindS h1
   refine o_ixA (k := 3) (r := rItem) hS (.inl rfl) rfl rfl rfl rfl (.inl rfl) Fu75 Fs72 hx3 ?_; clear hS
   intro tm hS
   refine o_ldFA (r := rItem) (k := 3) hS (.inl rfl) rfl rfl rfl (.inl rfl) hx3 Fu72 rfl Fs72 rfl flat_Item ?_; clear hS
   intro tm hS
   refine o_ldA (k := 1) hS (.inl rfl) rfl rfl rfl (.inl rfl) Fu72 rfl Fs72 rfl ?_; clear hS
   intro tm hS
   obtain ⟨fn2, hx4, h1⟩ := bindS h1
   obtain ⟨b3, hv1, hS⟩ := hS.unclo (k := 2) rfl hx4
   obtain ⟨⟨r3, r4⟩, hx5, h1⟩ := bindS h1
   refine o_call hS (.inl rfl) (by subst hv1; rfl) (fun wm' hw1 hw2 => wk87 ho100 y2 (Am.Item.mk n1 char1) fn2  b3 ((hS.sel hw2).adB 0 rfl) hx5) (fun wm' res H hw' hp => ?_)
   obtain ⟨hres, hI⟩ := hp
   replace hres := hres.symm; subst hres
   replace hS : S wm 52 _ H ((44, .tuple #[.agg #[.int .i64 r3.n, .bool r3.char], .int .i64 r4]) :: _) ([] ++ _) Fr := hS.after rfl hw' hI
   clear hI hw'
   refine pp3 hS rfl rfl rfl rfl rfl rfl ?_; clear hS
   intro tm hS
   refine o_st (k := 2) hS (.inl rfl) rfl rfl rfl Fs72 rfl rfl (all_cons rfl (all_cons rfl all_nil)) rfl ?_; clear hS; try clear H
   intro H hS
   refine pp1 hS rfl rfl ?_; clear hS
   intro tm hS
   refine o_nil (hR _ _ ?_)
   clear hR R
   refine cr2 hS rfl rfl rfl rfl ?_; clear hS
   intro tm hS
   refine c_cond hS rfl (fun hc => ?_) (fun hc => ?_)
   ·replace h1 := iteT hc h1
    refine c_reg fun R hR => ?_
    refine o_build hS (.inl rfl) rfl Fb72 rfl .nil rfl ?_; clear hS
    intro tm hS
    refine pp1 hS rfl rfl ?_; clear hS
    intro tm hS
    refine o_st (k := 1) hS (.inl rfl) rfl rfl rfl Fs72 rfl rfl (all_cons rfl (all_cons rfl all_nil)) rfl ?_; clear hS; try clear H
    intro H hS
    refine pp1 hS rfl rfl ?_; clear hS
    intro tm hS
    refine o_nil (hR _ _ ?_)
    clear hR R
    refine wpC.ret ?_
    obtain rfl := Option.some.inj h1
    obtain rfl := hq1 _ rfl
    refine And.intro rfl ?_
    obtain rfl := leave h0
    refine Exists.intro _ (And.intro (rs_cellA (k := 1) hS rfl rfl (.inl rfl) Fu72 rfl Fs72 rfl (rs_tmp hS rfl rs_nil)) ?_)
    have hI := hS.inv
    exact ⟨rfl, (hI.sub sn)⟩
   ·replace h1 := iteF hc h1
    refine wpC.skip ?_
    refine cs3 hS rfl rfl rfl rfl rfl rfl ?_; clear hS
    intro tm hS
    obtain rfl := Option.some.inj h1
    refine ⟨_, rfl, ?_⟩
    change S wm 52 _ _ _ _ Fr; exact hS.keep (k5 rfl rfl rfl rfl rfl) (fun hI => (hI.sub (sd (sc (sc (sc (sc sn)))))))
  ·replace h1 := iteF hc h1
   refine wpC.exit ?_
   refine seqX ?_
   obtain rfl := Option.some.inj h1
   obtain rfl := hq1 _ rfl
   refine And.intro rfl (blk_eq ?_)
   replace h0 := joinN h0
   refine c_reg fun R hR => ?_
   refine o_ldA (k := 1) hS (.inl rfl) rfl rfl rfl (.inl rfl) Fu72 rfl Fs72 rfl ?_; clear hS
   intro tm hS
   refine o_st (k := 0) hS (.inl rfl) rfl rfl rfl Fs72 rfl rfl (all_cons rfl (all_cons rfl all_nil)) rfl ?_; clear hS; try clear H
   intro H hS
   refine pp1 hS rfl rfl ?_; clear hS
   intro tm hS
   refine o_nil (hR _ _ ?_)
   clear hR R
   refine wpC.ret ?_
   obtain rfl := Option.some.inj h0
   refine Exists.intro _ (And.intro (rs_cellA (k := 0) hS rfl rfl (.inl rfl) Fu72 rfl Fs72 rfl (rs_tmp hS rfl rs_nil)) ?_)
   have hI := hS.inv
   exact ⟨rfl, (hI.sub sn)⟩
theorem wk16 {wm : Nat} {H : AHeap} {Fr : List Ent} (ho100 : ora 100 = false) (f1 : ByteArray) (g1 : ByteArray) (a1 : Val) (b1 : Val)  (v1 : Value) (v2 : Value) (v3 : Value) (v4 : Value) (hI : Kn wm H [.fz (rI .i64) v1 a1.Shape, .fz (rI .i64) v2 a1.Data, .fz (rI .i64) v3 b1.Shape, .fz (rI .i64) v4 b1.Data] Fr) {r : Val × Int} (h0 : M.over_Inner f1 g1 a1 b1 = some r) :
  wpF Try.prog ora wm 16 [.string f1, .string g1, .agg #[.bool a1.Char, v1, v2], .agg #[.bool b1.Char, v3, v4]] H (fun res H => ∃ v23 v24, res = .tuple #[.agg #[.bool r.1.Char, v23, v24], .int .i64 r.2] ∧ Kn wm H [.own (rI .i64) v23 r.1.Shape, .own (rI .i64) v24 r.1.Data] Fr) := by
 unfold M.over_Inner at h0
 refine f_enter (n := 182) Try.func16 rfl (by simp) hI rfl rfl rfl fun tm hS => ?_
 clear hI
 refine c_reg fun R hR => ?_
 refine o_box hS (.inl rfl) rfl rfl rfl (all_cons rfl (all_cons (hS.one (k := 0) rfl (.inl rfl)) (all_cons (hS.one (k := 1) rfl (.inl rfl)) all_nil))) ?_; clear hS
 intro b2 tm H hS
 refine o_box hS (.inl rfl) rfl rfl rfl (all_cons rfl (all_cons (hS.one (k := 3) rfl (.inl rfl)) (all_cons (hS.one (k := 4) rfl (.inl rfl)) all_nil))) ?_; clear hS
 intro b3 tm H hS
 refine o_alloc hS (.inl rfl) rfl Fz25 (by decide) ?_; clear hS
 intro b4 tm H hS
 refine pp1 hS rfl rfl ?_; clear hS
 intro tm hS
 refine o_nil (hR _ _ ?_)
 clear hR R
 refine c_reg fun R hR => ?_
 refine pp1 hS rfl rfl ?_; clear hS
 intro tm hS
 refine o_ldA (k := 2) hS (.inl rfl) rfl rfl rfl (.inl rfl) Fu25 rfl Fs25 rfl ?_; clear hS
 intro tm hS
 refine o_ldA (k := 1) hS (.inl rfl) rfl rfl rfl (.inl rfl) Fu25 rfl Fs25 rfl ?_; clear hS
 intro tm hS
 refine o_lit (r := rVal) (l := [a1, b1]) hS (.inl rfl) rfl Fl103 rfl rfl rfl (.cons rfl (.cons rfl .nil)) rfl rfl (ri_3 (rd_Val ⟨3, rfl⟩ ⟨4, rfl⟩) (ri_3 (rd_Val ⟨5, rfl⟩ ⟨6, rfl⟩) ri_nil)) rfl ?_; clear hS
 intro v5 tm H hS
 replace hS := hS.litFrz (k := 0) rfl
 obtain ⟨⟨r1, r2⟩, hx1, h0⟩ := bindS h0
 refine o_call hS (.inl rfl) rfl (fun wm' hw1 hw2 => wk31  f1 ([a1, b1])  v5 ((hS.sel hw2).ad 0 rfl) hx1) (fun wm' res H hw' hp => ?_)
 obtain ⟨v6, hres, hI⟩ := hp
 replace hres := hres.symm; subst hres
 replace hS : S wm 182 _ H ((31, .tuple #[v6, .int .i64 r2]) :: _) ([.el (rClo 87) [v6] r1] ++ _) Fr := hS.after rfl hw' hI
 clear hI hw'
 refine pp5 hS rfl rfl rfl rfl rfl rfl rfl rfl rfl rfl ?_; clear hS
 intro tm hS
 refine o_nil (hR _ _ ?_)
 clear hR R
 refine c_seqS ?_
 refine cr2 hS rfl rfl rfl rfl ?_; clear hS
 intro tm hS
 refine c_cond hS rfl (fun hc => ?_) (fun hc => ?_)
 ·replace h0 := iteT hc h0
  refine c_reg fun R hR => ?_
  refine o_build hS (.inl rfl) rfl Fb25 rfl .nil rfl ?_; clear hS
  intro tm hS
  refine pp1 hS rfl rfl ?_; clear hS
  intro tm hS
  refine o_st (k := 2) hS (.inl rfl) rfl rfl rfl Fs25 rfl rfl (all_cons rfl (all_cons rfl (all_cons rfl all_nil))) rfl ?_; clear hS; try clear H
  intro H hS
  refine pp1 hS rfl rfl ?_; clear hS
  intro tm hS
  refine o_nil (hR _ _ ?_)
  clear hR R
  refine wpC.ret ?_
  obtain rfl := Option.some.inj h0
  replace hS := hS.nilOwn (rI .i64)
  replace hS := hS.nilOwn (rI .i64)
  refine Exists.intro _ (And.intro (rs_cellA (k := 4) hS rfl rfl (.inl rfl) Fu25 rfl Fs25 rfl (rs_tmp hS rfl rs_nil)) ?_)
  have hI := hS.inv
  exact ⟨(.slice none 0 0), (.slice none 0 0), rfl, (((hI.pull 0 rfl).pull 1 rfl).take 2)⟩
 ·replace h0 := iteF hc h0
  refine wpC.skip ?_
  refine c_reg fun R hR => ?_
  refine pp1 hS rfl rfl ?_; clear hS
  intro tm hS
  obtain ⟨⟨r3, r4⟩, hx2, h0⟩ := bindS h0
  refine o_call hS (.inl rfl) rfl (fun wm' hw1 hw2 => wk31  g1 ([])  (.slice none 0 0) ((hS.sel hw2).adNil rVal) hx2) (fun wm' res H hw' hp => ?_)
  obtain ⟨v7, hres, hI⟩ := hp
  replace hres := hres.symm; subst hres
  replace hS : S wm 182 _ H ((40, .tuple #[v7, .int .i64 r4]) :: _) ([.el (rClo 87) [v7] r3] ++ _) Fr := hS.after rfl hw' hI
  clear hI hw'
  refine pp5 hS rfl rfl rfl rfl rfl rfl rfl rfl rfl rfl ?_; clear hS
  intro tm hS
  refine o_nil (hR _ _ ?_)
  clear hR R
  refine c_seqS ?_
  refine cr2 hS rfl rfl rfl rfl ?_; clear hS
  intro tm hS
  refine c_cond hS rfl (fun hc => ?_) (fun hc => ?_)
  ·replace h0 := iteT hc h0
   refine c_reg fun R hR => ?_
   refine o_build hS (.inl rfl) rfl Fb25 rfl .nil rfl ?_; clear hS
   intro tm hS
   refine pp1 hS rfl rfl ?_; clear hS
   intro tm hS
   refine o_st (k := 3) hS (.inl rfl) rfl rfl rfl Fs25 rfl rfl (all_cons rfl (all_cons rfl (all_cons rfl all_nil))) rfl ?_; clear hS; try clear H
   intro H hS
   refine pp1 hS rfl rfl ?_; clear hS
   intro tm hS
   refine o_nil (hR _ _ ?_)
   clear hR R
   refine wpC.ret ?_
   obtain rfl := Option.some.inj h0
   replace hS := hS.nilOwn (rI .i64)
   replace hS := hS.nilOwn (rI .i64)
   refine Exists.intro _ (And.intro (rs_cellA (k := 5) hS rfl rfl (.inl rfl) Fu25 rfl Fs25 rfl (rs_tmp hS rfl rs_nil)) ?_)
   have hI := hS.inv
   exact ⟨(.slice none 0 0), (.slice none 0 0), rfl, (((hI.pull 0 rfl).pull 1 rfl).take 2)⟩
  ·replace h0 := iteF hc h0
   refine wpC.skip ?_
   refine c_reg fun R hR => ?_
   refine o_ldA (k := 5) hS (.inl rfl) rfl rfl rfl (.inl rfl) Fu25 rfl Fs25 rfl ?_; clear hS
   intro tm hS
   obtain ⟨r5, hx3, h0⟩ := bindS h0
   refine o_call hS (.inl rfl) rfl (fun wm' hw1 hw2 => wk45  a1  v1 v2 (((hS.sel hw2).ad 7 rfl).ad 6 rfl) hx3) (fun wm' res H hw' hp => ?_)
   obtain ⟨v8, v9, v10, hres, hI⟩ := hp
   replace hres := hres.symm; subst hres
   replace hS : S wm 182 _ H ((48, .agg #[.bool r5.v.Char, v8, v9, v10, .int .i64 r5.n, .int .i64 r5.size, .int .i64 r5.across, .int .i64 r5.inside]) :: _) ([.fz (rI .i64) v8 r5.v.Shape, .fz (rI .i64) v9 r5.v.Data, .fz (rI .i64) v10 r5.s] ++ _) Fr := hS.after rfl hw' hI
   clear hI hw'
   refine o_ldA (k := 7) hS (.inl rfl) rfl rfl rfl (.inl rfl) Fu25 rfl Fs25 rfl ?_; clear hS
   intro tm hS
   obtain ⟨r6, hx4, h0⟩ := bindS h0
   refine o_call hS (.inl rfl) rfl (fun wm' hw1 hw2 => wk46  b1  v3 v4 (((hS.sel hw2).ad 12 rfl).ad 11 rfl) hx4) (fun wm' res H hw' hp => ?_)
   obtain ⟨v11, v12, v13, hres, hI⟩ := hp
   replace hres := hres.symm; subst hres
   replace hS : S wm 182 _ H ((50, .agg #[.bool r6.v.Char, v11, v12, v13, .int .i64 r6.n, .int .i64 r6.size, .int .i64 r6.across, .int .i64 r6.inside]) :: _) ([.fz (rI .i64) v11 r6.v.Shape, .fz (rI .i64) v12 r6.v.Data, .fz (rI .i64) v13 r6.s] ++ _) Fr := hS.after rfl hw' hI
   clear hI hw'
   refine o_alloc hS (.inl rfl) rfl Fz87 (by decide) ?_; clear hS
   intro b5 tm H hS
   refine o_alloc hS (.inl rfl) rfl Fz87 (by decide) ?_; clear hS
   intro b6 tm H hS
   refine o_stW (k := 1) hS (.inl rfl) rfl rfl rfl Fs87 rfl rfl (all_cons rfl (all_cons (hS.one (k := 5) rfl (.inl rfl)) (all_cons (hS.one (k := 6) rfl (.inl rfl)) (all_cons (hS.one (k := 7) rfl (.inl rfl)) (all_cons rfl (all_cons rfl (all_cons rfl (all_cons rfl all_nil)))))))) rfl ?_; clear hS; try clear H
   intro H hS
   refine o_stW (k := 0) hS (.inl rfl) rfl rfl rfl Fs87 rfl rfl (all_cons rfl (all_cons (hS.one (k := 2) rfl (.inl rfl)) (all_cons (hS.one (k := 3) rfl (.inl rfl)) (all_cons (hS.one (k := 4) rfl (.inl rfl)) (all_cons rfl (all_cons rfl (all_cons rfl (all_cons rfl all_nil)))))))) rfl ?_; clear hS; try clear H
   intro H hS
   refine o_nil (hR _ _ ?_)
   clear hR R
   refine c_reg fun R hR => ?_
   refine pp1 hS rfl rfl ?_; clear hS
   intro tm hS
   refine o_ld1 (k := 1) hS (.inl rfl) rfl rfl rfl (.inl rfl) Fu3 rfl rfl ?_; clear hS
   intro tm hS
   refine pp1 hS rfl rfl ?_; clear hS
   intro tm hS
   refine o_nil (hR _ _ ?_)
   clear hR R
   obtain ⟨n1, h1, h0⟩ := bindS h0
   refine c_seqJ (J := fun tm H => (match (generalizing := false) n1 with | n1 => S wm 182 tm H [(0, .string f1), (6, .pointer (some ⟨b2, 0, none⟩)), (7, .pointer (some ⟨b3, 0, none⟩)), (8, .pointer (some ⟨b4, 0, none⟩)), (10, v6), (12, v7), (13, .pointer (some ⟨b5, 0, none⟩)), (14, .pointer (some ⟨b6, 0, none⟩)), (15, .int .i64 n1)] [.box b2 [.bool a1.Char, v1, v2], .box b3 [.bool b1.Char, v3, v4], .box b4 [.bool false, (.slice none 0 0), (.slice none 0 0)], .box b5 [.bool r5.v.Char, v8, v9, v10, .int .i64 r5.n, .int .i64 r5.size, .int .i64 r5.across, .int .i64 r5.inside], .box b6 [.bool r6.v.Char, v11, v12, v13, .int .i64 r6.n, .int .i64 r6.size, .int .i64 r6.across, .int .i64 r6.inside], .fz (rI .i64) v1 a1.Shape, .fz (rI .i64) v2 a1.Data, .fz (rI .i64) v3 b1.Shape, .fz (rI .i64) v4 b1.Data, .el (rClo 87) [v6] r1, .el (rClo 87) [v7] r3, .fz (rI .i64) v8 r5.v.Shape, .fz (rI .i64) v9 r5.v.Data, .fz (rI .i64) v10 r5.s, .fz (rI .i64) v11 r6.v.Shape, .fz (rI .i64) v12 r6.v.Data, .fz (rI .i64) v13 r6.s] Fr)) ?_ ?_
   ·refine cr2 hS rfl rfl rfl rfl ?_; clear hS
    intro tm hS
    refine c_cond hS rfl (fun hc => ?_) (fun hc => ?_)
    ·replace h1 := iteT hc h1
     refine c_reg1 fun R hR => ?_
     refine pp1 hS rfl rfl ?_; clear hS
     intro tm hS
     refine o_ld1 (k := 0) hS (.inl rfl) rfl rfl rfl (.inl rfl) Fu3 rfl rfl ?_; clear hS
     intro tm hS
     refine pp1 hS rfl rfl ?_; clear hS
     intro tm hS
     refine o_nil (hR _ _ ?_)
     clear hR R
     obtain rfl := Option.some.inj h1
     change S wm 182 _ _ _ _ Fr; exact hS.keep (k9 rfl rfl rfl rfl rfl rfl rfl rfl rfl) (fun hI => (hI.pick [13, 12, 11, 1, 0, 14, 15, 16, 17, 9, 8, 5, 6, 7, 2, 3, 4] rfl))
    ·replace h1 := iteF hc h1
     refine wpC.skip ?_
     obtain rfl := Option.some.inj h1
     change S wm 182 _ _ _ _ Fr; exact hS.keep (k9 rfl rfl rfl rfl rfl rfl rfl rfl rfl) (fun hI => (hI.pick [13, 12, 11, 1, 0, 14, 15, 16, 17, 9, 8, 5, 6, 7, 2, 3, 4] rfl))
   intro tm H hS
   change S wm 182 tm H [(0, .string f1), (6, .pointer (some ⟨b2, 0, none⟩)), (7, .pointer (some ⟨b3, 0, none⟩)), (8, .pointer (some ⟨b4, 0, none⟩)), (10, v6), (12, v7), (13, .pointer (some ⟨b5, 0, none⟩)), (14, .pointer (some ⟨b6, 0, none⟩)), (15, .int .i64 n1)] [.box b2 [.bool a1.Char, v1, v2], .box b3 [.bool b1.Char, v3, v4], .box b4 [.bool false, (.slice none 0 0), (.slice none 0 0)], .box b5 [.bool r5.v.Char, v8, v9, v10, .int .i64 r5.n, .int .i64 r5.size, .int .i64 r5.across, .int .i64 r5.inside], .box b6 [.bool r6.v.Char, v11, v12, v13, .int .i64 r6.n, .int .i64 r6.size, .int .i64 r6.across, .int .i64 r6.inside], .fz (rI .i64) v1 a1.Shape, .fz (rI .i64) v2 a1.Data, .fz (rI .i64) v3 b1.Shape, .fz (rI .i64) v4 b1.Data, .el (rClo 87) [v6] r1, .el (rClo 87) [v7] r3, .fz (rI .i64) v8 r5.v.Shape, .fz (rI .i64) v9 r5.v.Data, .fz (rI .i64) v10 r5.s, .fz (rI .i64) v11 r6.v.Shape, .fz (rI .i64) v12 r6.v.Data, .fz (rI .i64) v13 r6.s] Fr at hS
   obtain ⟨k1, h2, h0⟩ := bindS h0
   refine c_seqJ (J := fun tm H => ∃ st, k1 = .next st ∧ (match (generalizing := false) st with | _ => S wm 182 tm H [(0, .string f1), (6, .pointer (some ⟨b2, 0, none⟩)), (7, .pointer (some ⟨b3, 0, none⟩)), (8, .pointer (some ⟨b4, 0, none⟩)), (10, v6), (12, v7), (13, .pointer (some ⟨b5, 0, none⟩)), (14, .pointer (some ⟨b6, 0, none⟩)), (15, .int .i64 n1)] [.box b2 [.bool a1.Char, v1, v2], .box b3 [.bool b1.Char, v3, v4], .box b4 [.bool false, (.slice none 0 0), (.slice none 0 0)], .box b5 [.bool r5.v.Char, v8, v9, v10, .int .i64 r5.n, .int .i64 r5.size, .int .i64 r5.across, .int .i64 r5.inside], .box b6 [.bool r6.v.Char, v11, v12, v13, .int .i64 r6.n, .int .i64 r6.size, .int .i64 r6.across, .int .i64 r6.inside], .fz (rI .i64) v1 a1.Shape, .fz (rI .i64) v2 a1.Data, .fz (rI .i64) v3 b1.Shape, .fz (rI .i64) v4 b1.Data, .el (rClo 87) [v6] r1, .el (rClo 87) [v7] r3, .fz (rI .i64) v8 r5.v.Shape, .fz (rI .i64) v9 r5.v.Data, .fz (rI .i64) v10 r5.s, .fz (rI .i64) v11 r6.v.Shape, .fz (rI .i64) v12 r6.v.Data, .fz (rI .i64) v13 r6.s] Fr)) ?_ ?_
   ·refine c_reg fun R hR => ?_
    refine pp1 hS rfl rfl ?_; clear hS
    intro tm hS
    refine o_ld1 (k := 3) hS (.inl rfl) rfl rfl rfl (.inl rfl) Fu3 rfl rfl ?_; clear hS
    intro tm hS
    refine pp3 hS rfl rfl rfl rfl rfl rfl ?_; clear hS
    intro tm hS
    obtain ⟨c1, hc1⟩ : ∃ x : Bool, x = ((r5.n != n1) || (r6.n != n1)) := ⟨_, rfl⟩
    refine o_cutN 5 (J := fun tm H => S wm 182 tm H [(66, .bool c1), (0, .string f1), (6, .pointer (some ⟨b2, 0, none⟩)), (7, .pointer (some ⟨b3, 0, none⟩)), (8, .pointer (some ⟨b4, 0, none⟩)), (10, v6), (12, v7), (13, .pointer (some ⟨b5, 0, none⟩)), (14, .pointer (some ⟨b6, 0, none⟩)), (15, .int .i64 n1)] [.box b2 [.bool a1.Char, v1, v2], .box b3 [.bool b1.Char, v3, v4], .box b4 [.bool false, (.slice none 0 0), (.slice none 0 0)], .box b5 [.bool r5.v.Char, v8, v9, v10, .int .i64 r5.n, .int .i64 r5.size, .int .i64 r5.across, .int .i64 r5.inside], .box b6 [.bool r6.v.Char, v11, v12, v13, .int .i64 r6.n, .int .i64 r6.size, .int .i64 r6.across, .int .i64 r6.inside], .fz (rI .i64) v1 a1.Shape, .fz (rI .i64) v2 a1.Data, .fz (rI .i64) v3 b1.Shape, .fz (rI .i64) v4 b1.Data, .el (rClo 87) [v6] r1, .el (rClo 87) [v7] r3, .fz (rI .i64) v8 r5.v.Shape, .fz (rI .i64) v9 r5.v.Data, .fz (rI .i64) v10 r5.s, .fz (rI .i64) v11 r6.v.Shape, .fz (rI .i64) v12 r6.v.Data, .fz (rI .i64) v13 r6.s] Fr) ?_ ?_
    ·rcases Bool.eq_false_or_eq_true (r5.n != n1) with hg1 | hg1
     ·refine o_skip hS rfl rfl rfl hg1 ?_; clear hS
      intro tm hS
      refine o_skip hS rfl rfl rfl hg1 ?_; clear hS
      intro tm hS
      refine o_skip hS rfl rfl rfl hg1 ?_; clear hS
      intro tm hS
      refine o_skip hS rfl rfl rfl hg1 ?_; clear hS
      intro tm hS
      refine o_pickT hS (.inl rfl) rfl rfl hg1 rfl ?_; clear hS
      intro tm hS
      have hc1 : c1 = true := hc1.trans (by rw [hg1]; first | rfl | simp)
      subst hc1
      exact o_nil (hS.keep (k10 rfl rfl rfl rfl rfl rfl rfl rfl rfl rfl) (fun hI => (hI.sub (sc (sc (sc (sc (sc (sc (sc (sc (sc (sc (sc (sc (sc (sc (sc (sc (sc sn))))))))))))))))))))
     ·refine o_pure hS (.inr ⟨_, _, _, _, rfl, rfl, rfl, hg1⟩) rfl rfl ?_; clear hS
      intro tm hS
      refine o_ld1 (k := 4) hS (.inr ⟨_, _, _, _, rfl, rfl, rfl, hg1⟩) rfl rfl rfl (.inl rfl) Fu3 rfl rfl ?_; clear hS
      intro tm hS
      refine o_pure hS (.inr ⟨_, _, _, _, rfl, rfl, rfl, hg1⟩) rfl rfl ?_; clear hS
      intro tm hS
      refine o_pure hS (.inr ⟨_, _, _, _, rfl, rfl, rfl, hg1⟩) rfl rfl ?_; clear hS
      intro tm hS
      refine o_pickF hS (.inl rfl) rfl rfl hg1 rfl ?_; clear hS
      intro tm hS
      have hc1 : c1 = (r6.n != n1) := hc1.trans (by rw [hg1]; first | rfl | simp)
      subst hc1
      exact o_nil (hS.keep (k10 rfl rfl rfl rfl rfl rfl rfl rfl rfl rfl) (fun hI => (hI.sub (sc (sc (sc (sc (sc (sc (sc (sc (sc (sc (sc (sc (sc (sc (sc (sc (sc sn))))))))))))))))))))
    intro tm H hS
    subst hc1
    refine o_nil (hR _ _ ?_)
    clear hR R
    refine c_cond hS rfl (fun hc => ?_) (fun hc => ?_)
    ·replace h2 := iteT hc h2
     refine c_reg fun R hR => ?_
     refine pp1 hS rfl rfl ?_; clear hS
     intro tm hS
     refine o_ld1 (k := 3) hS (.inl rfl) rfl rfl rfl (.inl rfl) Fu3 rfl rfl ?_; clear hS
     intro tm hS
     refine pp2 hS rfl rfl rfl rfl ?_; clear hS
     intro tm hS
     obtain ⟨c2, hc2⟩ : ∃ x : Bool, x = ((r5.n != 1) && (r6.n != 1)) := ⟨_, rfl⟩
     refine o_cutN 4 (J := fun tm H => S wm 182 tm H [(74, .bool c2), (0, .string f1), (6, .pointer (some ⟨b2, 0, none⟩)), (7, .pointer (some ⟨b3, 0, none⟩)), (8, .pointer (some ⟨b4, 0, none⟩)), (10, v6), (12, v7), (13, .pointer (some ⟨b5, 0, none⟩)), (14, .pointer (some ⟨b6, 0, none⟩)), (15, .int .i64 n1)] [.box b2 [.bool a1.Char, v1, v2], .box b3 [.bool b1.Char, v3, v4], .box b4 [.bool false, (.slice none 0 0), (.slice none 0 0)], .box b5 [.bool r5.v.Char, v8, v9, v10, .int .i64 r5.n, .int .i64 r5.size, .int .i64 r5.across, .int .i64 r5.inside], .box b6 [.bool r6.v.Char, v11, v12, v13, .int .i64 r6.n, .int .i64 r6.size, .int .i64 r6.across, .int .i64 r6.inside], .fz (rI .i64) v1 a1.Shape, .fz (rI .i64) v2 a1.Data, .fz (rI .i64) v3 b1.Shape, .fz (rI .i64) v4 b1.Data, .el (rClo 87) [v6] r1, .el (rClo 87) [v7] r3, .fz (rI .i64) v8 r5.v.Shape, .fz (rI .i64) v9 r5.v.Data, .fz (rI .i64) v10 r5.s, .fz (rI .i64) v11 r6.v.Shape, .fz (rI .i64) v12 r6.v.Data, .fz (rI .i64) v13 r6.s] Fr) ?_ ?_
     ·rcases Bool.eq_false_or_eq_true (r5.n != 1) with hg2 | hg2
      ·refine o_pure hS (.inr ⟨_, _, _, _, rfl, rfl, rfl, hg2⟩) rfl rfl ?_; clear hS
       intro tm hS
       refine o_ld1 (k := 4) hS (.inr ⟨_, _, _, _, rfl, rfl, rfl, hg2⟩) rfl rfl rfl (.inl rfl) Fu3 rfl rfl ?_; clear hS
       intro tm hS
       refine o_pure hS (.inr ⟨_, _, _, _, rfl, rfl, rfl, hg2⟩) rfl rfl ?_; clear hS
       intro tm hS
       refine o_pickT hS (.inl rfl) rfl rfl hg2 rfl ?_; clear hS
       intro tm hS
       have hc2 : c2 = (r6.n != 1) := hc2.trans (by rw [hg2]; first | rfl | simp)
       subst hc2
       exact o_nil (hS.keep (k10 rfl rfl rfl rfl rfl rfl rfl rfl rfl rfl) (fun hI => (hI.sub (sc (sc (sc (sc (sc (sc (sc (sc (sc (sc (sc (sc (sc (sc (sc (sc (sc sn))))))))))))))))))))
      ·refine o_skip hS rfl rfl rfl hg2 ?_; clear hS
       intro tm hS
       refine o_skip hS rfl rfl rfl hg2 ?_; clear hS
       intro tm hS
       refine o_skip hS rfl rfl rfl hg2 ?_; clear hS
       intro tm hS
       refine o_pickF hS (.inl rfl) rfl rfl hg2 rfl ?_; clear hS
       intro tm hS
       have hc2 : c2 = false := hc2.trans (by rw [hg2]; first | rfl | simp)
       subst hc2
       exact o_nil (hS.keep (k10 rfl rfl rfl rfl rfl rfl rfl rfl rfl rfl) (fun hI => (hI.sub (sc (sc (sc (sc (sc (sc (sc (sc (sc (sc (sc (sc (sc (sc (sc (sc (sc sn))))))))))))))))))))
     intro tm H hS
     subst hc2
     refine o_nil (hR _ _ ?_)
     clear hR R
     refine c_cond hS rfl (fun hc => ?_) (fun hc => ?_)
     ·replace h2 := iteT hc h2
      refine c_reg fun R hR => ?_
      refine o_build hS (.inl rfl) rfl Fb25 rfl .nil rfl ?_; clear hS
      intro tm hS
      refine o_st (k := 2) hS (.inl rfl) rfl rfl rfl Fs25 rfl rfl (all_cons rfl (all_cons rfl (all_cons rfl all_nil))) rfl ?_; clear hS; try clear H
      intro H hS
      refine pp1 hS rfl rfl ?_; clear hS
      intro tm hS
      refine o_nil (hR _ _ ?_)
      clear hR R
      refine wpC.ret ?_
      obtain rfl := Option.some.inj h2
      obtain rfl := leave h0
      replace hS := hS.nilOwn (rI .i64)
      replace hS := hS.nilOwn (rI .i64)
      refine Exists.intro _ (And.intro (rs_cellA (k := 4) hS rfl rfl (.inl rfl) Fu25 rfl Fs25 rfl (rs_tmp hS rfl rs_nil)) ?_)
      have hI := hS.inv
      exact ⟨(.slice none 0 0), (.slice none 0 0), rfl, (((hI.pull 0 rfl).pull 1 rfl).take 2)⟩
     ·replace h2 := iteF hc h2
      refine wpC.skip ?_
      obtain rfl := Option.some.inj h2
      refine ⟨_, rfl, ?_⟩
      change S wm 182 _ _ _ _ Fr; exact hS.keep (k9 rfl rfl rfl rfl rfl rfl rfl rfl rfl) (fun hI => (hI.sub (sc (sc (sc (sc (sc (sc (sc (sc (sc (sc (sc (sc (sc (sc (sc (sc (sc sn)))))))))))))))))))
    ·replace h2 := iteF hc h2
     refine wpC.skip ?_
     obtain rfl := Option.some.inj h2
     refine ⟨_, rfl, ?_⟩
     change S wm 182 _ _ _ _ Fr; exact hS.keep (k9 rfl rfl rfl rfl rfl rfl rfl rfl rfl) (fun hI => (hI.sub (sc (sc (sc (sc (sc (sc (sc (sc (sc (sc (sc (sc (sc (sc (sc (sc (sc sn)))))))))))))))))))
   intro tm H hS
   obtain ⟨st1, rfl, hS⟩ := hS
   replace h0 := joinN h0
   change S wm 182 tm H [(0, .string f1), (6, .pointer (some ⟨b2, 0, none⟩)), (7, .pointer (some ⟨b3, 0, none⟩)), (8, .pointer (some ⟨b4, 0, none⟩)), (10, v6), (12, v7), (13, .pointer (some ⟨b5, 0, none⟩)), (14, .pointer (some ⟨b6, 0, none⟩)), (15, .int .i64 n1)] [.box b2 [.bool a1.Char, v1, v2], .box b3 [.bool b1.Char, v3, v4], .box b4 [.bool false, (.slice none 0 0), (.slice none 0 0)], .box b5 [.bool r5.v.Char, v8, v9, v10, .int .i64 r5.n, .int .i64 r5.size, .int .i64 r5.across, .int .i64 r5.inside], .box b6 [.bool r6.v.Char, v11, v12, v13, .int .i64 r6.n, .int .i64 r6.size, .int .i64 r6.across, .int .i64 r6.inside], .fz (rI .i64) v1 a1.Shape, .fz (rI .i64) v2 a1.Data, .fz (rI .i64) v3 b1.Shape, .fz (rI .i64) v4 b1.Data, .el (rClo 87) [v6] r1, .el (rClo 87) [v7] r3, .fz (rI .i64) v8 r5.v.Shape, .fz (rI .i64) v9 r5.v.Data, .fz (rI .i64) v10 r5.s, .fz (rI .i64) v11 r6.v.Shape, .fz (rI .i64) v12 r6.v.Data, .fz (rI .i64) v13 r6.s] Fr at hS
   refine c_reg fun R hR => ?_
   refine o_lit (r := (rI .i64)) (l := ([] : List Int)) hS (.inl rfl) rfl Fl22 rfl rfl rfl .nil rfl rfl ri_nil rfl ?_; clear hS
   intro v14 tm H hS
   refine pp1 hS rfl rfl ?_; clear hS
   intro tm hS
   refine o_ld1 (k := 4) hS (.inl rfl) rfl rfl rfl (.inl rfl) Fu22 rfl rfl ?_; clear hS
   intro tm hS
   refine pp1 hS rfl rfl ?_; clear hS
   intro tm hS
   refine o_ld1 (k := 5) hS (.inl rfl) rfl rfl rfl (.inl rfl) Fu22 rfl rfl ?_; clear hS
   intro tm hS
   replace hS := hS.litFrz (k := 0) rfl
   refine o_lit (r := (rL (rI .i64))) (l := [([] : List Int), r5.s, r6.s]) hS (.inl rfl) rfl Fl113 rfl rfl rfl (.cons (cells_one (hS.one (k := 0) rfl (.inl rfl))) (.cons (cells_one (hS.one (k := 14) rfl (.inl rfl))) (.cons (cells_one (hS.one (k := 17) rfl (.inl rfl))) .nil))) rfl rfl (ri_1 (rd_S ⟨0, rfl⟩) (ri_1 (rd_S ⟨14, rfl⟩) (ri_1 (rd_S ⟨17, rfl⟩) ri_nil))) rfl ?_; clear hS
   intro v15 tm H hS
   obtain ⟨r7, hx5, h0⟩ := bindS h0
   refine o_call (Pc := fun _ res H => ∃ v16, res = v16 ∧ Kn wm H ([.own (rI .i64) v16 r7] ++ [.lit (rL (rI .i64)) v15 ([([] : List Int), r5.s, r6.s]), .fz (rI .i64) v14 ([] : List Int), .box b2 [.bool a1.Char, v1, v2], .box b3 [.bool b1.Char, v3, v4], .box b4 [.bool false, (.slice none 0 0), (.slice none 0 0)], .box b5 [.bool r5.v.Char, v8, v9, v10, .int .i64 r5.n, .int .i64 r5.size, .int .i64 r5.across, .int .i64 r5.inside], .box b6 [.bool r6.v.Char, v11, v12, v13, .int .i64 r6.n, .int .i64 r6.size, .int .i64 r6.across, .int .i64 r6.inside], .fz (rI .i64) v1 a1.Shape, .fz (rI .i64) v2 a1.Data, .fz (rI .i64) v3 b1.Shape, .fz (rI .i64) v4 b1.Data, .el (rClo 87) [v6] r1, .el (rClo 87) [v7] r3, .fz (rI .i64) v8 r5.v.Shape, .fz (rI .i64) v9 r5.v.Data, .fz (rI .i64) v10 r5.s, .fz (rI .i64) v11 r6.v.Shape, .fz (rI .i64) v12 r6.v.Data, .fz (rI .i64) v13 r6.s]) Fr) hS (.inl rfl) rfl (fun wm' hw1 hw2 => by
    obtain ⟨F2, kk_1, kk_2⟩ := hS.inv.lendR (La := [.fz (rL (rI .i64)) v15 ([([] : List Int), r5.s, r6.s])]) (List.forall_mem_cons.mpr ⟨(.inr ⟨_, _, _, _, rfl, .inr (List.mem_of_getElem? (i := 0) rfl)⟩), (fun _ h => by cases h)⟩) hw1 hw2
    exact (wk39  ([([] : List Int), r5.s, r6.s])  v15 kk_1 hx5).mono fun res H2 ⟨v16, qq_1, qq_2⟩ => ⟨v16, qq_1, kk_2 _ _ (List.forall_mem_cons.mpr ⟨⟨_, _, _, _, rfl, fun _ _ _ _ h => h⟩, (fun _ h => by cases h)⟩) qq_2⟩) (fun wm' res H hw' hp => ?_)
   obtain ⟨v16, hres, hI⟩ := hp
   replace hres := hres.symm; subst hres
   replace hS : S wm 182 _ H ((82, v16) :: _) ([.own (rI .i64) v16 r7] ++ [.lit (rL (rI .i64)) v15 ([([] : List Int), r5.s, r6.s]), .fz (rI .i64) v14 ([] : List Int), .box b2 [.bool a1.Char, v1, v2], .box b3 [.bool b1.Char, v3, v4], .box b4 [.bool false, (.slice none 0 0), (.slice none 0 0)], .box b5 [.bool r5.v.Char, v8, v9, v10, .int .i64 r5.n, .int .i64 r5.size, .int .i64 r5.across, .int .i64 r5.inside], .box b6 [.bool r6.v.Char, v11, v12, v13, .int .i64 r6.n, .int .i64 r6.size, .int .i64 r6.across, .int .i64 r6.inside], .fz (rI .i64) v1 a1.Shape, .fz (rI .i64) v2 a1.Data, .fz (rI .i64) v3 b1.Shape, .fz (rI .i64) v4 b1.Data, .el (rClo 87) [v6] r1, .el (rClo 87) [v7] r3, .fz (rI .i64) v8 r5.v.Shape, .fz (rI .i64) v9 r5.v.Data, .fz (rI .i64) v10 r5.s, .fz (rI .i64) v11 r6.v.Shape, .fz (rI .i64) v12 r6.v.Data, .fz (rI .i64) v13 r6.s]) Fr := (hS.put rfl _).withK hI
   clear hI hw'
   refine pp1 hS rfl rfl ?_; clear hS
   intro tm hS
   refine o_nil (hR _ _ ?_)
   clear hR R
   refine c_seqS ?_
   refine c_reg fun R hR => ?_
   refine pp1 hS rfl rfl ?_; clear hS
   intro tm hS
   refine o_len (k := 0) (r := (rI .i64)) hS (.inl rfl) rfl rfl rfl (.inr (.inl rfl)) Fu22 rfl ?_; clear hS
   intro tm hS
   refine pp1 hS rfl rfl ?_; clear hS
   intro tm hS
   refine o_nil (hR _ _ ?_)
   clear hR R
   refine c_cond hS rfl (fun hc => ?_) (fun hc => ?_)
   ·replace h0 := iteT hc h0
    refine c_reg fun R hR => ?_
    refine o_build hS (.inl rfl) rfl Fb25 rfl .nil rfl ?_; clear hS
    intro tm hS
    refine o_st (k := 5) hS (.inl rfl) rfl rfl rfl Fs25 rfl rfl (all_cons rfl (all_cons rfl (all_cons rfl all_nil))) rfl ?_; clear hS; try clear H
    intro H hS
    refine pp1 hS rfl rfl ?_; clear hS
    intro tm hS
    refine o_nil (hR _ _ ?_)
    clear hR R
    refine wpC.ret ?_
    obtain rfl := Option.some.inj h0
    replace hS := hS.nilOwn (rI .i64)
    replace hS := hS.nilOwn (rI .i64)
    refine Exists.intro _ (And.intro (rs_cellA (k := 7) hS rfl rfl (.inl rfl) Fu25 rfl Fs25 rfl (rs_tmp hS rfl rs_nil)) ?_)
    have hI := hS.inv
    exact ⟨(.slice none 0 0), (.slice none 0 0), rfl, (((hI.pull 0 rfl).pull 1 rfl).take 2)⟩
   ·replace h0 := iteF hc h0
    refine wpC.skip ?_
    refine c_reg fun R hR => ?_
    refine pp1 hS rfl rfl ?_; clear hS
    intro tm hS
    obtain ⟨⟨r8, r9⟩, hx6, h0⟩ := bindS h0
    refine o_call (Pc := fun _ res H => res = .tuple #[.int .i64 r8, .int .i64 r9] ∧ Kn wm H ([.own (rI .i64) v16 r7, .lit (rL (rI .i64)) v15 ([([] : List Int), r5.s, r6.s]), .fz (rI .i64) v14 ([] : List Int), .box b2 [.bool a1.Char, v1, v2], .box b3 [.bool b1.Char, v3, v4], .box b4 [.bool false, (.slice none 0 0), (.slice none 0 0)], .box b5 [.bool r5.v.Char, v8, v9, v10, .int .i64 r5.n, .int .i64 r5.size, .int .i64 r5.across, .int .i64 r5.inside], .box b6 [.bool r6.v.Char, v11, v12, v13, .int .i64 r6.n, .int .i64 r6.size, .int .i64 r6.across, .int .i64 r6.inside], .fz (rI .i64) v1 a1.Shape, .fz (rI .i64) v2 a1.Data, .fz (rI .i64) v3 b1.Shape, .fz (rI .i64) v4 b1.Data, .el (rClo 87) [v6] r1, .el (rClo 87) [v7] r3, .fz (rI .i64) v8 r5.v.Shape, .fz (rI .i64) v9 r5.v.Data, .fz (rI .i64) v10 r5.s, .fz (rI .i64) v11 r6.v.Shape, .fz (rI .i64) v12 r6.v.Data, .fz (rI .i64) v13 r6.s]) Fr) hS (.inl rfl) rfl (fun wm' hw1 hw2 => by
     obtain ⟨F2, kk_1, kk_2⟩ := hS.inv.lend (La := [.fz (rI .i64) v16 r7]) (List.forall_mem_cons.mpr ⟨(.inr ⟨_, _, _, _, rfl, .inl (List.mem_of_getElem? (i := 0) rfl)⟩), (fun _ h => by cases h)⟩) hw1 hw2
     exact (wk35  r7  v16 kk_1 hx6).mono fun res H2 ⟨qq_1, qq_2⟩ => ⟨qq_1, kk_2 _ qq_2⟩) (fun wm' res H hw' hp => ?_)
    obtain ⟨hres, hI⟩ := hp
    replace hres := hres.symm; subst hres
    replace hS : S wm 182 _ H ((89, .tuple #[.int .i64 r8, .int .i64 r9]) :: _) ([.own (rI .i64) v16 r7, .lit (rL (rI .i64)) v15 ([([] : List Int), r5.s, r6.s]), .fz (rI .i64) v14 ([] : List Int), .box b2 [.bool a1.Char, v1, v2], .box b3 [.bool b1.Char, v3, v4], .box b4 [.bool false, (.slice none 0 0), (.slice none 0 0)], .box b5 [.bool r5.v.Char, v8, v9, v10, .int .i64 r5.n, .int .i64 r5.size, .int .i64 r5.across, .int .i64 r5.inside], .box b6 [.bool r6.v.Char, v11, v12, v13, .int .i64 r6.n, .int .i64 r6.size, .int .i64 r6.across, .int .i64 r6.inside], .fz (rI .i64) v1 a1.Shape, .fz (rI .i64) v2 a1.Data, .fz (rI .i64) v3 b1.Shape, .fz (rI .i64) v4 b1.Data, .el (rClo 87) [v6] r1, .el (rClo 87) [v7] r3, .fz (rI .i64) v8 r5.v.Shape, .fz (rI .i64) v9 r5.v.Data, .fz (rI .i64) v10 r5.s, .fz (rI .i64) v11 r6.v.Shape, .fz (rI .i64) v12 r6.v.Data, .fz (rI .i64) v13 r6.s]) Fr := (hS.put rfl _).withK hI
    clear hI hw'
    refine pp5 hS rfl rfl rfl rfl rfl rfl rfl rfl rfl rfl ?_; clear hS
    intro tm hS
    refine o_nil (hR _ _ ?_)
    clear hR R
    refine c_seqS ?_
    refine c_reg fun R hR => ?_
    refine pp3 hS rfl rfl rfl rfl rfl rfl ?_; clear hS
    intro tm hS
    obtain ⟨c3, hc3⟩ : ∃ x : Bool, x = ((r9 != 0) || (decide ((IntKind.i64.wrap (r8 * n1)) > 1000000))) := ⟨_, rfl⟩
    refine o_cutN 5 (J := fun tm H => S wm 182 tm H [(99, .bool c3), (0, .string f1), (6, .pointer (some ⟨b2, 0, none⟩)), (7, .pointer (some ⟨b3, 0, none⟩)), (8, .pointer (some ⟨b4, 0, none⟩)), (10, v6), (12, v7), (13, .pointer (some ⟨b5, 0, none⟩)), (14, .pointer (some ⟨b6, 0, none⟩)), (15, .int .i64 n1), (16, v16), (17, .int .i64 r8)] [.own (rI .i64) v16 r7, .box b2 [.bool a1.Char, v1, v2], .box b3 [.bool b1.Char, v3, v4], .box b4 [.bool false, (.slice none 0 0), (.slice none 0 0)], .box b5 [.bool r5.v.Char, v8, v9, v10, .int .i64 r5.n, .int .i64 r5.size, .int .i64 r5.across, .int .i64 r5.inside], .box b6 [.bool r6.v.Char, v11, v12, v13, .int .i64 r6.n, .int .i64 r6.size, .int .i64 r6.across, .int .i64 r6.inside], .fz (rI .i64) v1 a1.Shape, .fz (rI .i64) v2 a1.Data, .fz (rI .i64) v3 b1.Shape, .fz (rI .i64) v4 b1.Data, .el (rClo 87) [v6] r1, .el (rClo 87) [v7] r3, .fz (rI .i64) v8 r5.v.Shape, .fz (rI .i64) v9 r5.v.Data, .fz (rI .i64) v10 r5.s, .fz (rI .i64) v11 r6.v.Shape, .fz (rI .i64) v12 r6.v.Data, .fz (rI .i64) v13 r6.s] Fr) ?_ ?_
    ·rcases Bool.eq_false_or_eq_true (r9 != 0) with hg3 | hg3
     ·refine o_skip hS rfl rfl rfl hg3 ?_; clear hS
      intro tm hS
      refine o_skip hS rfl rfl rfl hg3 ?_; clear hS
      intro tm hS
      refine o_skip hS rfl rfl rfl hg3 ?_; clear hS
      intro tm hS
      refine o_skip hS rfl rfl rfl hg3 ?_; clear hS
      intro tm hS
      refine o_pickT hS (.inl rfl) rfl rfl hg3 rfl ?_; clear hS
      intro tm hS
      have hc3 : c3 = true := hc3.trans (by rw [hg3]; first | rfl | simp)
      subst hc3
      exact o_nil (hS.keep (k12 rfl rfl rfl rfl rfl rfl rfl rfl rfl rfl rfl rfl) (fun hI => (hI.sub (sc (sd (sd (sc (sc (sc (sc (sc (sc (sc (sc (sc (sc (sc (sc (sc (sc (sc (sc (sc sn)))))))))))))))))))))))
     ·refine o_pure hS (.inr ⟨_, _, _, _, rfl, rfl, rfl, hg3⟩) rfl rfl ?_; clear hS
      intro tm hS
      refine o_pure hS (.inr ⟨_, _, _, _, rfl, rfl, rfl, hg3⟩) rfl rfl ?_; clear hS
      intro tm hS
      refine o_pure hS (.inr ⟨_, _, _, _, rfl, rfl, rfl, hg3⟩) rfl rfl ?_; clear hS
      intro tm hS
      refine o_pure hS (.inr ⟨_, _, _, _, rfl, rfl, rfl, hg3⟩) rfl rfl ?_; clear hS
      intro tm hS
      refine o_pickF hS (.inl rfl) rfl rfl hg3 rfl ?_; clear hS
      intro tm hS
      have hc3 : c3 = (decide ((IntKind.i64.wrap (r8 * n1)) > 1000000)) := hc3.trans (by rw [hg3]; first | rfl | simp)
      subst hc3
      exact o_nil (hS.keep (k12 rfl rfl rfl rfl rfl rfl rfl rfl rfl rfl rfl rfl) (fun hI => (hI.sub (sc (sd (sd (sc (sc (sc (sc (sc (sc (sc (sc (sc (sc (sc (sc (sc (sc (sc (sc (sc sn)))))))))))))))))))))))
    intro tm H hS
    subst hc3
    refine o_nil (hR _ _ ?_)
    clear hR R
    refine c_cond hS rfl (fun hc => ?_) (fun hc => ?_)
    ·replace h0 := iteT hc h0
     refine c_reg fun R hR => ?_
     refine o_build hS (.inl rfl) rfl Fb25 rfl .nil rfl ?_; clear hS
     intro tm hS
     refine o_st (k := 3) hS (.inl rfl) rfl rfl rfl Fs25 rfl rfl (all_cons rfl (all_cons rfl (all_cons rfl all_nil))) rfl ?_; clear hS; try clear H
     intro H hS
     refine pp1 hS rfl rfl ?_; clear hS
     intro tm hS
     refine o_nil (hR _ _ ?_)
     clear hR R
     refine wpC.ret ?_
     obtain rfl := Option.some.inj h0
     replace hS := hS.nilOwn (rI .i64)
     replace hS := hS.nilOwn (rI .i64)
     refine Exists.intro _ (And.intro (rs_cellA (k := 5) hS rfl rfl (.inl rfl) Fu25 rfl Fs25 rfl (rs_tmp hS rfl rs_nil)) ?_)
     have hI := hS.inv
     exact ⟨(.slice none 0 0), (.slice none 0 0), rfl, (((hI.pull 0 rfl).pull 1 rfl).take 2)⟩
    ·replace h0 := iteF hc h0
     refine wpC.skip ?_
     refine c_reg fun R hR => ?_
     refine pp2 hS rfl rfl rfl rfl ?_; clear hS
     intro tm hS
     obtain ⟨l1, hx7, h0⟩ := bindS h0
     refine o_mk (r := (rI .i64)) hS (.inl rfl) rfl rfl rfl Fm23 rfl (fun _ => rfl) hx7 ?_; clear hS
     intro v17 tm H hS
     refine o_build hS (.inl rfl) rfl Fb25 rfl (.cons (cells_one (hS.one (k := 1) rfl (.inr (.inl rfl)))) (.cons (cells_one (hS.one (k := 0) rfl (.inr (.inl rfl)))) .nil)) rfl ?_; clear hS
     intro tm hS
     refine o_alloc hS (.inl rfl) rfl Fz25 (by decide) ?_; clear hS
     intro b7 tm H hS
     refine o_st (k := 0) hS (.inl rfl) rfl rfl rfl Fs25 rfl rfl (all_cons rfl (all_cons (hS.one (k := 2) rfl (.inr (.inl rfl))) (all_cons (hS.one (k := 1) rfl (.inr (.inl rfl))) all_nil))) rfl ?_; clear hS; try clear H
     intro H hS
     refine o_nil (hR _ _ ?_)
     clear hR R
     refine c_seqS ?_
     refine cr1 hS rfl rfl ?_; clear hS
     intro tm hS
     obtain ⟨k2, hw1, h0⟩ := bindS h0
     refine wpC.block ?_
     refine c_loop (I := fun (s : Int × (List Int)) tm H => match (generalizing := false) s with | (i1, Data1) => ∃ v18, S wm 182 tm H [(0, .string f1), (6, .pointer (some ⟨b2, 0, none⟩)), (7, .pointer (some ⟨b3, 0, none⟩)), (8, .pointer (some ⟨b4, 0, none⟩)), (10, v6), (12, v7), (13, .pointer (some ⟨b5, 0, none⟩)), (14, .pointer (some ⟨b6, 0, none⟩)), (15, .int .i64 n1), (17, .int .i64 r8), (18, .pointer (some ⟨b7, 0, none⟩)), (19, .int .i64 i1)] [.box b2 [.bool a1.Char, v1, v2], .box b3 [.bool b1.Char, v3, v4], .box b4 [.bool false, (.slice none 0 0), (.slice none 0 0)], .box b5 [.bool r5.v.Char, v8, v9, v10, .int .i64 r5.n, .int .i64 r5.size, .int .i64 r5.across, .int .i64 r5.inside], .box b6 [.bool r6.v.Char, v11, v12, v13, .int .i64 r6.n, .int .i64 r6.size, .int .i64 r6.across, .int .i64 r6.inside], .box b7 [.bool false, v16, v18], .own (rI .i64) v18 Data1, .fz (rI .i64) v1 a1.Shape, .fz (rI .i64) v2 a1.Data, .fz (rI .i64) v3 b1.Shape, .fz (rI .i64) v4 b1.Data, .el (rClo 87) [v6] r1, .el (rClo 87) [v7] r3, .fz (rI .i64) v8 r5.v.Shape, .fz (rI .i64) v9 r5.v.Data, .fz (rI .i64) v10 r5.s, .fz (rI .i64) v11 r6.v.Shape, .fz (rI .i64) v12 r6.v.Data, .fz (rI .i64) v13 r6.s, .own (rI .i64) v16 r7] Fr) hw1 (by refine Exists.intro v17 ?_; change S wm 182 _ _ _ _ Fr; exact hS.keep (k12 rfl rfl rfl rfl rfl rfl rfl rfl rfl rfl rfl rfl) (fun hI => (hI.pick [3, 4, 5, 6, 7, 0, 1, 8, 9, 10, 11, 12, 13, 14, 15, 16, 17, 18, 19, 2] rfl))) ?_
     clear hS
     intro s1 tm H c4 hS h13 hq13
     obtain ⟨i1, Data1⟩ := s1
     obtain ⟨v18, hS⟩ := hS
     change S wm 182 tm H [(0, .string f1), (6, .pointer (some ⟨b2, 0, none⟩)), (7, .pointer (some ⟨b3, 0, none⟩)), (8, .pointer (some ⟨b4, 0, none⟩)), (10, v6), (12, v7), (13, .pointer (some ⟨b5, 0, none⟩)), (14, .pointer (some ⟨b6, 0, none⟩)), (15, .int .i64 n1), (17, .int .i64 r8), (18, .pointer (some ⟨b7, 0, none⟩)), (19, .int .i64 i1)] [.box b2 [.bool a1.Char, v1, v2], .box b3 [.bool b1.Char, v3, v4], .box b4 [.bool false, (.slice none 0 0), (.slice none 0 0)], .box b5 [.bool r5.v.Char, v8, v9, v10, .int .i64 r5.n, .int .i64 r5.size, .int .i64 r5.across, .int .i64 r5.inside], .box b6 [.bool r6.v.Char, v11, v12, v13, .int .i64 r6.n, .int .i64 r6.size, .int .i64 r6.across, .int .i64 r6.inside], .box b7 [.bool false, v16, v18], .own (rI .i64) v18 Data1, .fz (rI .i64) v1 a1.Shape, .fz (rI .i64) v2 a1.Data, .fz (rI .i64) v3 b1.Shape, .fz (rI .i64) v4 b1.Data, .el (rClo 87) [v6] r1, .el (rClo 87) [v7] r3, .fz (rI .i64) v8 r5.v.Shape, .fz (rI .i64) v9 r5.v.Data, .fz (rI .i64) v10 r5.s, .fz (rI .i64) v11 r6.v.Shape, .fz (rI .i64) v12 r6.v.Data, .fz (rI .i64) v13 r6.s, .own (rI .i64) v16 r7] Fr at hS
     refine c_seqS ?_
     refine c_reg fun R hR => ?_
     refine pp2 hS rfl rfl rfl rfl ?_; clear hS
     intro tm hS
     refine o_ld1 (k := 3) hS (.inl rfl) rfl rfl rfl (.inl rfl) Fu3 rfl rfl ?_; clear hS
     intro tm hS
     refine pp2 hS rfl rfl rfl rfl ?_; clear hS
     intro tm hS
     obtain ⟨c5, hc4⟩ : ∃ x : Bool, x = ((decide (i1 < r5.size)) && (decide (r8 > 0))) := ⟨_, rfl⟩
     refine o_cutN 3 (J := fun tm H => S wm 182 tm H [(112, .bool c5), (0, .string f1), (6, .pointer (some ⟨b2, 0, none⟩)), (7, .pointer (some ⟨b3, 0, none⟩)), (8, .pointer (some ⟨b4, 0, none⟩)), (10, v6), (12, v7), (13, .pointer (some ⟨b5, 0, none⟩)), (14, .pointer (some ⟨b6, 0, none⟩)), (15, .int .i64 n1), (17, .int .i64 r8), (18, .pointer (some ⟨b7, 0, none⟩)), (19, .int .i64 i1)] [.box b2 [.bool a1.Char, v1, v2], .box b3 [.bool b1.Char, v3, v4], .box b4 [.bool false, (.slice none 0 0), (.slice none 0 0)], .box b5 [.bool r5.v.Char, v8, v9, v10, .int .i64 r5.n, .int .i64 r5.size, .int .i64 r5.across, .int .i64 r5.inside], .box b6 [.bool r6.v.Char, v11, v12, v13, .int .i64 r6.n, .int .i64 r6.size, .int .i64 r6.across, .int .i64 r6.inside], .box b7 [.bool false, v16, v18], .own (rI .i64) v18 Data1, .fz (rI .i64) v1 a1.Shape, .fz (rI .i64) v2 a1.Data, .fz (rI .i64) v3 b1.Shape, .fz (rI .i64) v4 b1.Data, .el (rClo 87) [v6] r1, .el (rClo 87) [v7] r3, .fz (rI .i64) v8 r5.v.Shape, .fz (rI .i64) v9 r5.v.Data, .fz (rI .i64) v10 r5.s, .fz (rI .i64) v11 r6.v.Shape, .fz (rI .i64) v12 r6.v.Data, .fz (rI .i64) v13 r6.s, .own (rI .i64) v16 r7] Fr) ?_ ?_
     ·rcases Bool.eq_false_or_eq_true (decide (i1 < r5.size)) with hg4 | hg4
      ·refine o_pure hS (.inr ⟨_, _, _, _, rfl, rfl, rfl, hg4⟩) rfl rfl ?_; clear hS
       intro tm hS
       refine o_pure hS (.inr ⟨_, _, _, _, rfl, rfl, rfl, hg4⟩) rfl rfl ?_; clear hS
       intro tm hS
       refine o_pickT hS (.inl rfl) rfl rfl hg4 rfl ?_; clear hS
       intro tm hS
       have hc4 : c5 = (decide (r8 > 0)) := hc4.trans (by rw [hg4]; first | rfl | simp)
       subst hc4
       exact o_nil (hS.keep (ka_cons rfl (ka_cons rfl (ka_cons rfl (ka_cons rfl (ka_cons rfl (ka_cons rfl (ka_cons rfl (ka_cons rfl (ka_cons rfl (ka_cons rfl (ka_cons rfl (ka_cons rfl (ka_cons rfl ka_nil))))))))))))) (fun hI => (hI.sub (sc (sc (sc (sc (sc (sc (sc (sc (sc (sc (sc (sc (sc (sc (sc (sc (sc (sc (sc (sc sn)))))))))))))))))))))))
      ·refine o_skip hS rfl rfl rfl hg4 ?_; clear hS
       intro tm hS
       refine o_skip hS rfl rfl rfl hg4 ?_; clear hS
       intro tm hS
       refine o_pickF hS (.inl rfl) rfl rfl hg4 rfl ?_; clear hS
       intro tm hS
       have hc4 : c5 = false := hc4.trans (by rw [hg4]; first | rfl | simp)
       subst hc4
       exact o_nil (hS.keep (ka_cons rfl (ka_cons rfl (ka_cons rfl (ka_cons rfl (ka_cons rfl (ka_cons rfl (ka_cons rfl (ka_cons rfl (ka_cons rfl (ka_cons rfl (ka_cons rfl (ka_cons rfl (ka_cons rfl ka_nil))))))))))))) (fun hI => (hI.sub (sc (sc (sc (sc (sc (sc (sc (sc (sc (sc (sc (sc (sc (sc (sc (sc (sc (sc (sc (sc sn)))))))))))))))))))))))
     intro tm H hS
     subst hc4
     refine o_nil (hR _ _ ?_)
     clear hR R
     refine c_cond hS rfl (fun hc => ?_) (fun hc => ?_)
     ·replace h13 := iteT hc h13
      refine wpC.skip ?_
      refine c_seqS ?_
      refine wpC.block ?_
      refine c_reg fun R hR => ?_
      refine pp1 hS rfl rfl ?_; clear hS
      intro tm hS
      refine o_ld1 (k := 4) hS (.inl rfl) rfl rfl rfl (.inl rfl) Fu3 rfl rfl ?_; clear hS
      intro tm hS
      refine pp1 hS rfl rfl ?_; clear hS
      intro tm hS
      refine o_nil (hR _ _ ?_)
      clear hR R
      obtain ⟨k3, hw2, h13⟩ := bindS h13
      refine wpC.block ?_
      refine c_loop (I := fun (s : Int × (List Int)) tm H => match (generalizing := false) s with | (t1, Data2) => ∃ v19, S wm 182 tm H [(0, .string f1), (6, .pointer (some ⟨b2, 0, none⟩)), (7, .pointer (some ⟨b3, 0, none⟩)), (8, .pointer (some ⟨b4, 0, none⟩)), (10, v6), (12, v7), (13, .pointer (some ⟨b5, 0, none⟩)), (14, .pointer (some ⟨b6, 0, none⟩)), (15, .int .i64 n1), (17, .int .i64 r8), (18, .pointer (some ⟨b7, 0, none⟩)), (19, .int .i64 i1), (116, .int .i64 r6.size), (117, .int .i64 t1)] [.box b2 [.bool a1.Char, v1, v2], .box b3 [.bool b1.Char, v3, v4], .box b4 [.bool false, (.slice none 0 0), (.slice none 0 0)], .box b5 [.bool r5.v.Char, v8, v9, v10, .int .i64 r5.n, .int .i64 r5.size, .int .i64 r5.across, .int .i64 r5.inside], .box b6 [.bool r6.v.Char, v11, v12, v13, .int .i64 r6.n, .int .i64 r6.size, .int .i64 r6.across, .int .i64 r6.inside], .box b7 [.bool false, v16, v19], .own (rI .i64) v19 Data2, .fz (rI .i64) v1 a1.Shape, .fz (rI .i64) v2 a1.Data, .fz (rI .i64) v3 b1.Shape, .fz (rI .i64) v4 b1.Data, .el (rClo 87) [v6] r1, .el (rClo 87) [v7] r3, .fz (rI .i64) v8 r5.v.Shape, .fz (rI .i64) v9 r5.v.Data, .fz (rI .i64) v10 r5.s, .fz (rI .i64) v11 r6.v.Shape, .fz (rI .i64) v12 r6.v.Data, .fz (rI .i64) v13 r6.s, .own (rI .i64) v16 r7] Fr) hw2 (by refine Exists.intro v18 ?_; change S wm 182 _ _ _ _ Fr; exact hS.keep (ka_cons rfl (ka_cons rfl (ka_cons rfl (ka_cons rfl (ka_cons rfl (ka_cons rfl (ka_cons rfl (ka_cons rfl (ka_cons rfl (ka_cons rfl (ka_cons rfl (ka_cons rfl (ka_cons rfl (ka_cons rfl ka_nil)))))))))))))) (fun hI => (hI.sub (sc (sc (sc (sc (sc (sc (sc (sc (sc (sc (sc (sc (sc (sc (sc (sc (sc (sc (sc (sc sn))))))))))))))))))))))) ?_
      clear hS
      intro s2 tm H c6 hS h21 hq21
      obtain ⟨t1, Data2⟩ := s2
      obtain ⟨v19, hS⟩ := hS
      change S wm 182 tm H [(0, .string f1), (6, .pointer (some ⟨b2, 0, none⟩)), (7, .pointer (some ⟨b3, 0, none⟩)), (8, .pointer (some ⟨b4, 0, none⟩)), (10, v6), (12, v7), (13, .pointer (some ⟨b5, 0, none⟩)), (14, .pointer (some ⟨b6, 0, none⟩)), (15, .int .i64 n1), (17, .int .i64 r8), (18, .pointer (some ⟨b7, 0, none⟩)), (19, .int .i64 i1), (116, .int .i64 r6.size), (117, .int .i64 t1)] [.box b2 [.bool a1.Char, v1, v2], .box b3 [.bool b1.Char, v3, v4], .box b4 [.bool false, (.slice none 0 0), (.slice none 0 0)], .box b5 [.bool r5.v.Char, v8, v9, v10, .int .i64 r5.n, .int .i64 r5.size, .int .i64 r5.across, .int .i64 r5.inside], .box b6 [.bool r6.v.Char, v11, v12, v13, .int .i64 r6.n, .int .i64 r6.size, .int .i64 r6.across, .int .i64 r6.inside], .box b7 [.bool false, v16, v19], .own (rI .i64) v19 Data2, .fz (rI .i64) v1 a1.Shape, .fz (rI .i64) v2 a1.Data, .fz (rI .i64) v3 b1.Shape, .fz (rI .i64) v4 b1.Data, .el (rClo 87) [v6] r1, .el (rClo 87) [v7] r3, .fz (rI .i64) v8 r5.v.Shape, .fz (rI .i64) v9 r5.v.Data, .fz (rI .i64) v10 r5.s, .fz (rI .i64) v11 r6.v.Shape, .fz (rI .i64) v12 r6.v.Data, .fz (rI .i64) v13 r6.s, .own (rI .i64) v16 r7] Fr at hS
      refine cr1 hS rfl rfl ?_; clear hS
      intro tm hS
      refine c_seqS ?_
      refine c_cond hS rfl (fun hc => ?_) (fun hc => ?_)
      ·replace h21 := iteT hc h21
       refine wpC.skip ?_
       refine c_seqS ?_
       refine wpC.block ?_
       refine cr2 hS rfl rfl rfl rfl ?_; clear hS
       intro tm hS
       refine c_reg fun R hR => ?_
       refine pp1 hS rfl rfl ?_; clear hS
       intro tm hS
       obtain ⟨l2, hx8, h21⟩ := bindS h21
       refine o_mkW (r := rItem) (z := (Am.Item.mk 0 false)) hS (.inl rfl) rfl rfl rfl Fm75 rfl (fun _ => rfl) hx8 ?_; clear hS
       intro v20 tm H hS
       refine pp1 hS rfl rfl ?_; clear hS
       intro tm hS
       refine o_nil (hR _ _ ?_)
       clear hR R
       refine c_seqS ?_
       refine c_reg fun R hR => ?_
       refine pp1 hS rfl rfl ?_; clear hS
       intro tm hS
       refine o_len (k := 0) (r := rItem) hS (.inl rfl) rfl rfl rfl (.inr (.inl rfl)) Fu75 rfl ?_; clear hS
       intro tm hS
       refine pp1 hS rfl rfl ?_; clear hS
       intro tm hS
       refine o_nil (hR _ _ ?_)
       clear hR R
       obtain ⟨k4, hw3, h21⟩ := bindS h21
       refine wpC.block ?_
       refine c_loop (I := fun (s : Int × (List Am.Item)) tm H => match (generalizing := false) s with | (t2, l3) => S wm 182 tm H [(0, .string f1), (6, .pointer (some ⟨b2, 0, none⟩)), (7, .pointer (some ⟨b3, 0, none⟩)), (8, .pointer (some ⟨b4, 0, none⟩)), (10, v6), (12, v7), (13, .pointer (some ⟨b5, 0, none⟩)), (14, .pointer (some ⟨b6, 0, none⟩)), (15, .int .i64 n1), (17, .int .i64 r8), (18, .pointer (some ⟨b7, 0, none⟩)), (19, .int .i64 i1), (20, .int .i64 t1), (21, v20), (116, .int .i64 r6.size), (117, .int .i64 t1), (123, .int .i64 (l2.length : Int)), (124, .int .i64 t2)] [.box b2 [.bool a1.Char, v1, v2], .box b3 [.bool b1.Char, v3, v4], .box b4 [.bool false, (.slice none 0 0), (.slice none 0 0)], .box b5 [.bool r5.v.Char, v8, v9, v10, .int .i64 r5.n, .int .i64 r5.size, .int .i64 r5.across, .int .i64 r5.inside], .box b6 [.bool r6.v.Char, v11, v12, v13, .int .i64 r6.n, .int .i64 r6.size, .int .i64 r6.across, .int .i64 r6.inside], .box b7 [.bool false, v16, v19], .fz (rI .i64) v1 a1.Shape, .fz (rI .i64) v2 a1.Data, .fz (rI .i64) v3 b1.Shape, .fz (rI .i64) v4 b1.Data, .el (rClo 87) [v6] r1, .el (rClo 87) [v7] r3, .fz (rI .i64) v8 r5.v.Shape, .fz (rI .i64) v9 r5.v.Data, .fz (rI .i64) v10 r5.s, .fz (rI .i64) v11 r6.v.Shape, .fz (rI .i64) v12 r6.v.Data, .fz (rI .i64) v13 r6.s, .own (rI .i64) v16 r7, .own (rI .i64) v19 Data2, .own rItem v20 l3] Fr) hw3 (by change S wm 182 _ _ _ _ Fr; exact hS.keep (ka_cons rfl (ka_cons rfl (ka_cons rfl (ka_cons rfl (ka_cons rfl (ka_cons rfl (ka_cons rfl (ka_cons rfl (ka_cons rfl (ka_cons rfl (ka_cons rfl (ka_cons rfl (ka_cons rfl (ka_cons rfl (ka_cons rfl (ka_cons rfl (ka_cons rfl (ka_cons rfl ka_nil)))))))))))))))))) (fun hI => (hI.pick [1, 2, 3, 4, 5, 6, 8, 9, 10, 11, 12, 13, 14, 15, 16, 17, 18, 19, 20, 7, 0] rfl))) ?_
       clear hS
       intro s3 tm H c7 hS h23 hq23
       obtain ⟨t2, l3⟩ := s3
       change S wm 182 tm H [(0, .string f1), (6, .pointer (some ⟨b2, 0, none⟩)), (7, .pointer (some ⟨b3, 0, none⟩)), (8, .pointer (some ⟨b4, 0, none⟩)), (10, v6), (12, v7), (13, .pointer (some ⟨b5, 0, none⟩)), (14, .pointer (some ⟨b6, 0, none⟩)), (15, .int .i64 n1), (17, .int .i64 r8), (18, .pointer (some ⟨b7, 0, none⟩)), (19, .int .i64 i1), (20, .int .i64 t1), (21, v20), (116, .int .i64 r6.size), (117, .int .i64 t1), (123, .int .i64 (l2.length : Int)), (124, .int .i64 t2)] [.box b2 [.bool a1.Char, v1, v2], .box b3 [.bool b1.Char, v3, v4], .box b4 [.bool false, (.slice none 0 0), (.slice none 0 0)], .box b5 [.bool r5.v.Char, v8, v9, v10, .int .i64 r5.n, .int .i64 r5.size, .int .i64 r5.across, .int .i64 r5.inside], .box b6 [.bool r6.v.Char, v11, v12, v13, .int .i64 r6.n, .int .i64 r6.size, .int .i64 r6.across, .int .i64 r6.inside], .box b7 [.bool false, v16, v19], .fz (rI .i64) v1 a1.Shape, .fz (rI .i64) v2 a1.Data, .fz (rI .i64) v3 b1.Shape, .fz (rI .i64) v4 b1.Data, .el (rClo 87) [v6] r1, .el (rClo 87) [v7] r3, .fz (rI .i64) v8 r5.v.Shape, .fz (rI .i64) v9 r5.v.Data, .fz (rI .i64) v10 r5.s, .fz (rI .i64) v11 r6.v.Shape, .fz (rI .i64) v12 r6.v.Data, .fz (rI .i64) v13 r6.s, .own (rI .i64) v16 r7, .own (rI .i64) v19 Data2, .own rItem v20 l3] Fr at hS
       refine cr1 hS rfl rfl ?_; clear hS
       intro tm hS
       refine c_seqS ?_
       refine c_cond hS rfl (fun hc => ?_) (fun hc => ?_)
       ·replace h23 := iteT hc h23
        refine wpC.skip ?_
        refine c_seqS ?_
        refine wpC.block ?_
        refine cr2 hS rfl rfl rfl rfl ?_; clear hS
        intro tm hS
        refine cr1 hS rfl rfl ?_; clear hS
        intro tm hS
        refine c_reg fun R hR => ?_
        refine pp3 hS rfl rfl rfl rfl rfl rfl ?_; clear hS
        intro tm hS
        refine o_ldA (k := 0) hS (.inl rfl) rfl rfl rfl (.inl rfl) Fu25 rfl Fs25 rfl ?_; clear hS
        intro tm hS
        refine pp2 hS rfl rfl rfl rfl ?_; clear hS
        intro tm hS
        refine o_ld1 (k := 3) hS (.inl rfl) rfl rfl rfl (.inl rfl) Fu3 rfl rfl ?_; clear hS
        intro tm hS
        refine pp3 hS rfl rfl rfl rfl rfl rfl ?_; clear hS
        intro tm hS
        refine o_ld1 (k := 3) hS (.inl rfl) rfl rfl rfl (.inl rfl) Fu3 rfl rfl ?_; clear hS
        intro tm hS
        refine pp2 hS rfl rfl rfl rfl ?_; clear hS
        intro tm hS
        obtain ⟨r10, hx9, h23⟩ := bindS h23
        refine o_call hS (.inl rfl) rfl (fun wm' hw1 hw2 => wk40  a1 (IntKind.i64.wrap ((IntKind.i64.wrap (i1 * r5.across)) + (IntKind.i64.wrap (t2 * r5.inside))))  v1 v2 (((hS.sel hw2).ad 7 rfl).ad 6 rfl) hx9) (fun wm' res H hw' hp => ?_)
        obtain ⟨hres, hI⟩ := hp
        replace hres := hres.symm; subst hres
        replace hS : S wm 182 _ H ((141, .agg #[.int .i64 r10.n, .bool r10.char]) :: _) ([] ++ _) Fr := hS.after rfl hw' hI
        clear hI hw'
        refine o_ldA (k := 1) hS (.inl rfl) rfl rfl rfl (.inl rfl) Fu25 rfl Fs25 rfl ?_; clear hS
        intro tm hS
        refine pp2 hS rfl rfl rfl rfl ?_; clear hS
        intro tm hS
        refine o_ld1 (k := 4) hS (.inl rfl) rfl rfl rfl (.inl rfl) Fu3 rfl rfl ?_; clear hS
        intro tm hS
        refine pp3 hS rfl rfl rfl rfl rfl rfl ?_; clear hS
        intro tm hS
        refine o_ld1 (k := 4) hS (.inl rfl) rfl rfl rfl (.inl rfl) Fu3 rfl rfl ?_; clear hS
        intro tm hS
        refine pp2 hS rfl rfl rfl rfl ?_; clear hS
        intro tm hS
        obtain ⟨r11, hx10, h23⟩ := bindS h23
        refine o_call hS (.inl rfl) rfl (fun wm' hw1 hw2 => wk40  b1 (IntKind.i64.wrap ((IntKind.i64.wrap (t1 * r6.across)) + (IntKind.i64.wrap (t2 * r6.inside))))  v3 v4 (((hS.sel hw2).ad 9 rfl).ad 8 rfl) hx10) (fun wm' res H hw' hp => ?_)
        obtain ⟨hres, hI⟩ := hp
        replace hres := hres.symm; subst hres
        replace hS : S wm 182 _ H ((152, .agg #[.int .i64 r11.n, .bool r11.char]) :: _) ([] ++ _) Fr := hS.after rfl hw' hI
        clear hI hw'
        obtain ⟨fn1, hx11, h23⟩ := bindS h23
        obtain ⟨b8, hv1, hS⟩ := hS.unclo (k := 11) rfl hx11
        obtain ⟨⟨r12, r13⟩, hx12, h23⟩ := bindS h23
        refine o_call hS (.inl rfl) (by subst hv1; rfl) (fun wm' hw1 hw2 => wk87 ho100 r10 r11 fn1  b8 ((hS.sel hw2).adB 0 rfl) hx12) (fun wm' res H hw' hp => ?_)
        obtain ⟨hres, hI⟩ := hp
        replace hres := hres.symm; subst hres
        replace hS : S wm 182 _ H ((153, .tuple #[.agg #[.int .i64 r12.n, .bool r12.char], .int .i64 r13]) :: _) ([] ++ _) Fr := hS.after rfl hw' hI
        clear hI hw'
        refine pp3 hS rfl rfl rfl rfl rfl rfl ?_; clear hS
        intro tm hS
        obtain ⟨y1, hx13, h23⟩ := bindS h23
        refine o_ixA (k := 21) (r := rItem) hS (.inl rfl) rfl rfl rfl rfl (.inr (.inl rfl)) Fu75 Fs72 hx13 ?_; clear hS
        intro tm hS
        obtain ⟨l4, hx14, h23⟩ := bindS h23
        refine o_stE (k := 21) (r := rItem) hS (.inl rfl) rfl rfl rfl Fs72 rfl rfl (rd_flat fun _ => rfl) hx14 ?_; clear hS; try clear H
        intro H hS
        refine pp1 hS rfl rfl ?_; clear hS
        intro tm hS
        refine o_nil (hR _ _ ?_)
        clear hR R
        refine cr2 hS rfl rfl rfl rfl ?_; clear hS
        intro tm hS
        refine c_cond hS rfl (fun hc => ?_) (fun hc => ?_)
        ·replace h23 := iteT hc h23
         refine c_reg fun R hR => ?_
         refine o_build hS (.inl rfl) rfl Fb25 rfl .nil rfl ?_; clear hS
         intro tm hS
         refine pp1 hS rfl rfl ?_; clear hS
         intro tm hS
         refine o_st (k := 3) hS (.inl rfl) rfl rfl rfl Fs25 rfl rfl (all_cons rfl (all_cons rfl (all_cons rfl all_nil))) rfl ?_; clear hS; try clear H
         intro H hS
         refine pp1 hS rfl rfl ?_; clear hS
         intro tm hS
         refine o_nil (hR _ _ ?_)
         clear hR R
         refine wpC.ret ?_
         obtain rfl := Option.some.inj h23
         obtain rfl := hq23 _ rfl
         refine And.intro rfl ?_
         obtain rfl := leave h21
         obtain rfl := hq21 _ rfl
         refine And.intro rfl ?_
         obtain rfl := leave h13
         obtain rfl := hq13 _ rfl
         refine And.intro rfl ?_
         obtain rfl := leave h0
         replace hS := hS.nilOwn (rI .i64)
         replace hS := hS.nilOwn (rI .i64)
         refine Exists.intro _ (And.intro (rs_cellA (k := 5) hS rfl rfl (.inl rfl) Fu25 rfl Fs25 rfl (rs_tmp hS rfl rs_nil)) ?_)
         have hI := hS.inv
         exact ⟨(.slice none 0 0), (.slice none 0 0), rfl, (((hI.pull 0 rfl).pull 1 rfl).take 2)⟩
        ·replace h23 := iteF hc h23
         refine wpC.skip ?_
         refine cs2 hS rfl rfl rfl rfl ?_; clear hS
         intro tm hS
         obtain rfl := Option.some.inj h23
         refine ⟨_, rfl, ?_⟩
         change S wm 182 _ _ _ _ Fr; exact hS.keep (ka_cons rfl (ka_cons rfl (ka_cons rfl (ka_cons rfl (ka_cons rfl (ka_cons rfl (ka_cons rfl (ka_cons rfl (ka_cons rfl (ka_cons rfl (ka_cons rfl (ka_cons rfl (ka_cons rfl (ka_cons rfl (ka_cons rfl (ka_cons rfl (ka_cons rfl (ka_cons rfl ka_nil)))))))))))))))))) (fun hI => (hI.sub (sd (sc (sc (sc (sc (sc (sc (sc (sc (sc (sc (sc (sc (sc (sc (sc (sc (sc (sc (sc (sc (sc sn))))))))))))))))))))))))
       ·replace h23 := iteF hc h23
        refine wpC.exit ?_
        refine seqX ?_
        obtain rfl := Option.some.inj h23
        obtain rfl := hq23 _ rfl
        refine And.intro rfl (blk_eq ?_)
        replace h21 := joinN h21
        refine c_reg fun R hR => ?_
        refine pp3 hS rfl rfl rfl rfl rfl rfl ?_; clear hS
        intro tm hS
        obtain ⟨⟨r14, r15⟩, hx15, h21⟩ := bindS h21
        refine o_call (Pc := fun _ res H => res = .tuple #[.agg #[.int .i64 r14.n, .bool r14.char], .int .i64 r15] ∧ Kn wm H ([.box b2 [.bool a1.Char, v1, v2], .box b3 [.bool b1.Char, v3, v4], .box b4 [.bool false, (.slice none 0 0), (.slice none 0 0)], .box b5 [.bool r5.v.Char, v8, v9, v10, .int .i64 r5.n, .int .i64 r5.size, .int .i64 r5.across, .int .i64 r5.inside], .box b6 [.bool r6.v.Char, v11, v12, v13, .int .i64 r6.n, .int .i64 r6.size, .int .i64 r6.across, .int .i64 r6.inside], .box b7 [.bool false, v16, v19], .fz (rI .i64) v1 a1.Shape, .fz (rI .i64) v2 a1.Data, .fz (rI .i64) v3 b1.Shape, .fz (rI .i64) v4 b1.Data, .el (rClo 87) [v6] r1, .el (rClo 87) [v7] r3, .fz (rI .i64) v8 r5.v.Shape, .fz (rI .i64) v9 r5.v.Data, .fz (rI .i64) v10 r5.s, .fz (rI .i64) v11 r6.v.Shape, .fz (rI .i64) v12 r6.v.Data, .fz (rI .i64) v13 r6.s, .own (rI .i64) v16 r7, .own (rI .i64) v19 Data2, .own rItem v20 l3]) Fr) hS (.inl rfl) rfl (fun wm' hw1 hw2 => by
         obtain ⟨F2, kk_1, kk_2⟩ := hS.inv.lend (La := [.el (rClo 87) [v6] r1, .fz rItem v20 l3]) (List.forall_mem_cons.mpr ⟨(.inl ⟨rfl, List.mem_of_getElem? (i := 10) rfl⟩), (List.forall_mem_cons.mpr ⟨(.inr ⟨_, _, _, _, rfl, .inl (List.mem_of_getElem? (i := 20) rfl)⟩), (fun _ h => by cases h)⟩)⟩) hw1 hw2
         exact (wk37 ho100 f1 r1 l3  v6 v20 kk_1 hx15).mono fun res H2 ⟨qq_1, qq_2⟩ => ⟨qq_1, kk_2 _ qq_2⟩) (fun wm' res H hw' hp => ?_)
        obtain ⟨hres, hI⟩ := hp
        replace hres := hres.symm; subst hres
        replace hS : S wm 182 _ H ((166, .tuple #[.agg #[.int .i64 r14.n, .bool r14.char], .int .i64 r15]) :: _) ([.box b2 [.bool a1.Char, v1, v2], .box b3 [.bool b1.Char, v3, v4], .box b4 [.bool false, (.slice none 0 0), (.slice none 0 0)], .box b5 [.bool r5.v.Char, v8, v9, v10, .int .i64 r5.n, .int .i64 r5.size, .int .i64 r5.across, .int .i64 r5.inside], .box b6 [.bool r6.v.Char, v11, v12, v13, .int .i64 r6.n, .int .i64 r6.size, .int .i64 r6.across, .int .i64 r6.inside], .box b7 [.bool false, v16, v19], .fz (rI .i64) v1 a1.Shape, .fz (rI .i64) v2 a1.Data, .fz (rI .i64) v3 b1.Shape, .fz (rI .i64) v4 b1.Data, .el (rClo 87) [v6] r1, .el (rClo 87) [v7] r3, .fz (rI .i64) v8 r5.v.Shape, .fz (rI .i64) v9 r5.v.Data, .fz (rI .i64) v10 r5.s, .fz (rI .i64) v11 r6.v.Shape, .fz (rI .i64) v12 r6.v.Data, .fz (rI .i64) v13 r6.s, .own (rI .i64) v16 r7, .own (rI .i64) v19 Data2, .own rItem v20 l3]) Fr := (hS.put rfl _).withK hI
        clear hI hw'
        refine pp3 hS rfl rfl rfl rfl rfl rfl ?_; clear hS
        intro tm hS
        refine o_alloc hS (.inl rfl) rfl Fz72 (by decide) ?_; clear hS
        intro b9 tm H hS
        refine o_st (k := 0) hS (.inl rfl) rfl rfl rfl Fs72 rfl rfl (all_cons rfl (all_cons rfl all_nil)) rfl ?_; clear hS; try clear H
        intro H hS
        refine pp1 hS rfl rfl ?_; clear hS
        intro tm hS
        refine o_nil (hR _ _ ?_)
        clear hR R
        refine c_seqS ?_
        refine cr2 hS rfl rfl rfl rfl ?_; clear hS
        intro tm hS
        refine c_cond hS rfl (fun hc => ?_) (fun hc => ?_)
        ·replace h21 := iteT hc h21
         refine c_reg fun R hR => ?_
         refine o_build hS (.inl rfl) rfl Fb25 rfl .nil rfl ?_; clear hS
         intro tm hS
         refine pp1 hS rfl rfl ?_; clear hS
         intro tm hS
         refine o_st (k := 3) hS (.inl rfl) rfl rfl rfl Fs25 rfl rfl (all_cons rfl (all_cons rfl (all_cons rfl all_nil))) rfl ?_; clear hS; try clear H
         intro H hS
         refine pp1 hS rfl rfl ?_; clear hS
         intro tm hS
         refine o_nil (hR _ _ ?_)
         clear hR R
         refine wpC.ret ?_
         obtain rfl := Option.some.inj h21
         obtain rfl := hq21 _ rfl
         refine And.intro rfl ?_
         obtain rfl := leave h13
         obtain rfl := hq13 _ rfl
         refine And.intro rfl ?_
         obtain rfl := leave h0
         replace hS := hS.nilOwn (rI .i64)
         replace hS := hS.nilOwn (rI .i64)
         refine Exists.intro _ (And.intro (rs_cellA (k := 5) hS rfl rfl (.inl rfl) Fu25 rfl Fs25 rfl (rs_tmp hS rfl rs_nil)) ?_)
         have hI := hS.inv
         exact ⟨(.slice none 0 0), (.slice none 0 0), rfl, (((hI.pull 0 rfl).pull 1 rfl).take 2)⟩
        ·replace h21 := iteF hc h21
         refine wpC.skip ?_
         refine c_reg1 fun R hR => ?_
         refine pp1 hS rfl rfl ?_; clear hS
         intro tm hS
         refine o_ld1 (k := 6) hS (.inl rfl) rfl rfl rfl (.inl rfl) Fu23 rfl rfl ?_; clear hS
         intro tm hS
         refine pp1 hS rfl rfl ?_; clear hS
         intro tm hS
         refine o_ld1 (k := 0) hS (.inl rfl) rfl rfl rfl (.inl rfl) Fu2 rfl rfl ?_; clear hS
         intro tm hS
         refine o_lit (r := (rI .i64)) (l := [r14.n]) hS (.inl rfl) rfl Fl23 rfl rfl rfl (.cons rfl .nil) rfl rfl (ri_1 (rd_flat fun _ => rfl) ri_nil) rfl ?_; clear hS
         intro v21 tm H hS
         obtain ⟨l5, hx16, h21⟩ := bindS h21
         refine o_app (k1 := 21) (k2 := 0) (r := (rI .i64)) hS (.inl rfl) rfl rfl rfl rfl rfl (.inr (.inr rfl)) rfl Fe23_23 rfl hx16 ?_; clear hS
         intro v22 tm H hS
         refine pp1 hS rfl rfl ?_; clear hS
         intro tm hS
         refine o_st (k := 7) hS (.inl rfl) rfl rfl rfl Fs23 (cells_one (hS.one (k := 21) rfl (.inr (.inl rfl)))) rfl (all_cons (hS.one (k := 21) rfl (.inr (.inl rfl))) all_nil) rfl ?_; clear hS; try clear H
         intro H hS
         refine o_nil (hR _ _ ?_)
         clear hR R
         refine cs2 hS rfl rfl rfl rfl ?_; clear hS
         intro tm hS
         obtain rfl := Option.some.inj h21
         refine ⟨_, rfl, ?_⟩
         refine Exists.intro v22 ?_; change S wm 182 _ _ _ _ Fr; exact hS.keep (ka_cons rfl (ka_cons rfl (ka_cons rfl (ka_cons rfl (ka_cons rfl (ka_cons rfl (ka_cons rfl (ka_cons rfl (ka_cons rfl (ka_cons rfl (ka_cons rfl (ka_cons rfl (ka_cons rfl (ka_cons rfl ka_nil)))))))))))))) (fun hI => (hI.pick [2, 3, 4, 5, 6, 7, 21, 8, 9, 10, 11, 12, 13, 14, 15, 16, 17, 18, 19, 20] rfl))
      ·replace h21 := iteF hc h21
       refine wpC.exit ?_
       refine seqX ?_
       obtain rfl := Option.some.inj h21
       obtain rfl := hq21 _ rfl
       refine And.intro rfl (blk_eq ?_)
       replace h13 := joinN h13
       refine cs3 hS rfl rfl rfl rfl rfl rfl ?_; clear hS
       intro tm hS
       obtain rfl := Option.some.inj h13
       refine ⟨_, rfl, ?_⟩
       refine Exists.intro v19 ?_; change S wm 182 _ _ _ _ Fr; exact hS.keep (k12 rfl rfl rfl rfl rfl rfl rfl rfl rfl rfl rfl rfl) (fun hI => (hI.sub (sc (sc (sc (sc (sc (sc (sc (sc (sc (sc (sc (sc (sc (sc (sc (sc (sc (sc (sc (sc sn))))))))))))))))))))))
     ·replace h13 := iteF hc h13
      refine wpC.exit ?_
      refine seqX ?_
      obtain rfl := Option.some.inj h13
      obtain rfl := hq13 _ rfl
      refine And.intro rfl (blk_eq ?_)
      replace h0 := joinN h0
      refine c_reg fun R hR => ?_
      refine o_ldA (k := 5) hS (.inl rfl) rfl rfl rfl (.inl rfl) Fu25 rfl Fs25 rfl ?_; clear hS
      intro tm hS
      refine o_st (k := 2) hS (.inl rfl) rfl rfl rfl Fs25 rfl rfl (all_cons rfl (all_cons (hS.one (k := 19) rfl (.inr (.inl rfl))) (all_cons (hS.one (k := 6) rfl (.inr (.inl rfl))) all_nil))) rfl ?_; clear hS; try clear H
      intro H hS
      refine pp1 hS rfl rfl ?_; clear hS
      intro tm hS
      refine o_nil (hR _ _ ?_)
      clear hR R
      refine wpC.ret ?_
      obtain rfl := Option.some.inj h0
      refine Exists.intro _ (And.intro (rs_cellA (k := 2) hS rfl rfl (.inl rfl) Fu25 rfl Fs25 rfl (rs_tmp hS rfl rs_nil)) ?_)
      have hI := hS.inv
      exact ⟨v16, v18, rfl, (((hI.pull 6 rfl).pull 19 rfl).take 2)⟩
theorem wk21 {wm : Nat} {H : AHeap} {Fr : List Ent}  (a1 : Val) (b1 : Val)  (v1 : Value) (v2 : Value) (v3 : Value) (v4 : Value) (hI : Kn wm H [.fz (rI .i64) v1 a1.Shape, .fz (rI .i64) v2 a1.Data, .fz (rI .i64) v3 b1.Shape, .fz (rI .i64) v4 b1.Data] Fr) {r : Bool} (h0 : M.anamnesisref02_Same a1 b1 = some r) :
  wpF Try.prog ora wm 21 [.agg #[.bool a1.Char, v1, v2], .agg #[.bool b1.Char, v3, v4]] H (fun res H => res = .bool r ∧ Kn wm H [] Fr) := by
 unfold M.anamnesisref02_Same at h0
 refine f_enter (n := 66) Try.func21 rfl (by simp) hI rfl rfl rfl fun tm hS => ?_
 clear hI
 refine c_reg fun R hR => ?_
 refine o_box hS (.inl rfl) rfl rfl rfl (all_cons rfl (all_cons (hS.one (k := 0) rfl (.inl rfl)) (all_cons (hS.one (k := 1) rfl (.inl rfl)) all_nil))) ?_; clear hS
 intro b2 tm H hS
 refine o_box hS (.inl rfl) rfl rfl rfl (all_cons rfl (all_cons (hS.one (k := 3) rfl (.inl rfl)) (all_cons (hS.one (k := 4) rfl (.inl rfl)) all_nil))) ?_; clear hS
 intro b3 tm H hS
 refine pp1 hS rfl rfl ?_; clear hS
 intro tm hS
 refine o_nil (hR _ _ ?_)
 clear hR R
 refine c_seqS ?_
 refine c_reg fun R hR => ?_
 refine pp1 hS rfl rfl ?_; clear hS
 intro tm hS
 refine o_ld1 (k := 1) hS (.inl rfl) rfl rfl rfl (.inl rfl) Fu4 rfl rfl ?_; clear hS
 intro tm hS
 refine pp1 hS rfl rfl ?_; clear hS
 intro tm hS
 refine o_ld1 (k := 0) hS (.inl rfl) rfl rfl rfl (.inl rfl) Fu4 rfl rfl ?_; clear hS
 intro tm hS
 refine pp2 hS rfl rfl rfl rfl ?_; clear hS
 intro tm hS
 obtain ⟨c1, hc1⟩ : ∃ x : Bool, x = ((!(a1.Char == b1.Char)) || ((a1.Shape.length : Int) != (b1.Shape.length : Int))) := ⟨_, rfl⟩
 refine o_cutN 8 (J := fun tm H => S wm 66 tm H [(20, .bool c1), (2, .pointer (some ⟨b2, 0, none⟩)), (3, .pointer (some ⟨b3, 0, none⟩))] [.box b3 [.bool b1.Char, v3, v4], .box b2 [.bool a1.Char, v1, v2], .fz (rI .i64) v1 a1.Shape, .fz (rI .i64) v2 a1.Data, .fz (rI .i64) v3 b1.Shape, .fz (rI .i64) v4 b1.Data] Fr) ?_ ?_
 ·rcases Bool.eq_false_or_eq_true (!(a1.Char == b1.Char)) with hg1 | hg1
  ·refine o_skip hS rfl rfl rfl hg1 ?_; clear hS
   intro tm hS
   refine o_skip hS rfl rfl rfl hg1 ?_; clear hS
   intro tm hS
   refine o_skip hS rfl rfl rfl hg1 ?_; clear hS
   intro tm hS
   refine o_skip hS rfl rfl rfl hg1 ?_; clear hS
   intro tm hS
   refine o_skip hS rfl rfl rfl hg1 ?_; clear hS
   intro tm hS
   refine o_skip hS rfl rfl rfl hg1 ?_; clear hS
   intro tm hS
   refine o_skip hS rfl rfl rfl hg1 ?_; clear hS
   intro tm hS
   refine o_pickT hS (.inl rfl) rfl rfl hg1 rfl ?_; clear hS
   intro tm hS
   have hc1 : c1 = true := hc1.trans (by rw [hg1]; first | rfl | simp)
   subst hc1
   exact o_nil (hS.keep (k3 rfl rfl rfl) (fun hI => (hI.sub (sc (sc (sc (sc (sc (sc sn)))))))))
  ·refine o_pure hS (.inr ⟨_, _, _, _, rfl, rfl, rfl, hg1⟩) rfl rfl ?_; clear hS
   intro tm hS
   refine o_ld1 (k := 1) hS (.inr ⟨_, _, _, _, rfl, rfl, rfl, hg1⟩) rfl rfl rfl (.inl rfl) Fu22 rfl rfl ?_; clear hS
   intro tm hS
   refine o_len (k := 2) (r := (rI .i64)) hS (.inr ⟨_, _, _, _, rfl, rfl, rfl, hg1⟩) rfl rfl rfl (.inl rfl) Fu22 rfl ?_; clear hS
   intro tm hS
   refine o_pure hS (.inr ⟨_, _, _, _, rfl, rfl, rfl, hg1⟩) rfl rfl ?_; clear hS
   intro tm hS
   refine o_ld1 (k := 0) hS (.inr ⟨_, _, _, _, rfl, rfl, rfl, hg1⟩) rfl rfl rfl (.inl rfl) Fu22 rfl rfl ?_; clear hS
   intro tm hS
   refine o_len (k := 4) (r := (rI .i64)) hS (.inr ⟨_, _, _, _, rfl, rfl, rfl, hg1⟩) rfl rfl rfl (.inl rfl) Fu22 rfl ?_; clear hS
   intro tm hS
   refine o_pure hS (.inr ⟨_, _, _, _, rfl, rfl, rfl, hg1⟩) rfl rfl ?_; clear hS
   intro tm hS
   refine o_pickF hS (.inl rfl) rfl rfl hg1 rfl ?_; clear hS
   intro tm hS
   have hc1 : c1 = ((a1.Shape.length : Int) != (b1.Shape.length : Int)) := hc1.trans (by rw [hg1]; first | rfl | simp)
   subst hc1
   exact o_nil (hS.keep (k3 rfl rfl rfl) (fun hI => (hI.sub (sc (sc (sc (sc (sc (sc sn)))))))))
 intro tm H hS
 subst hc1
 refine pp1 hS rfl rfl ?_; clear hS
 intro tm hS
 obtain ⟨c2, hc2⟩ : ∃ x : Bool, x = (((!(a1.Char == b1.Char)) || ((a1.Shape.length : Int) != (b1.Shape.length : Int))) || ((a1.Data.length : Int) != (b1.Data.length : Int))) := ⟨_, rfl⟩
 refine o_cutN 8 (J := fun tm H => S wm 66 tm H [(29, .bool c2), (2, .pointer (some ⟨b2, 0, none⟩)), (3, .pointer (some ⟨b3, 0, none⟩))] [.box b3 [.bool b1.Char, v3, v4], .box b2 [.bool a1.Char, v1, v2], .fz (rI .i64) v1 a1.Shape, .fz (rI .i64) v2 a1.Data, .fz (rI .i64) v3 b1.Shape, .fz (rI .i64) v4 b1.Data] Fr) ?_ ?_
 ·rcases Bool.eq_false_or_eq_true ((!(a1.Char == b1.Char)) || ((a1.Shape.length : Int) != (b1.Shape.length : Int))) with hg2 | hg2
  ·refine o_skip hS rfl rfl rfl hg2 ?_; clear hS
   intro tm hS
   refine o_skip hS rfl rfl rfl hg2 ?_; clear hS
   intro tm hS
   refine o_skip hS rfl rfl rfl hg2 ?_; clear hS
   intro tm hS
   refine o_skip hS rfl rfl rfl hg2 ?_; clear hS
   intro tm hS
   refine o_skip hS rfl rfl rfl hg2 ?_; clear hS
   intro tm hS
   refine o_skip hS rfl rfl rfl hg2 ?_; clear hS
   intro tm hS
   refine o_skip hS rfl rfl rfl hg2 ?_; clear hS
   intro tm hS
   refine o_pickT hS (.inl rfl) rfl rfl hg2 rfl ?_; clear hS
   intro tm hS
   have hc2 : c2 = true := hc2.trans (by rw [hg2]; first | rfl | simp)
   subst hc2
   exact o_nil (hS.keep (k3 rfl rfl rfl) (fun hI => (hI.sub (sc (sc (sc (sc (sc (sc sn)))))))))
  ·refine o_pure hS (.inr ⟨_, _, _, _, rfl, rfl, rfl, hg2⟩) rfl rfl ?_; clear hS
   intro tm hS
   refine o_ld1 (k := 1) hS (.inr ⟨_, _, _, _, rfl, rfl, rfl, hg2⟩) rfl rfl rfl (.inl rfl) Fu23 rfl rfl ?_; clear hS
   intro tm hS
   refine o_len (k := 3) (r := (rI .i64)) hS (.inr ⟨_, _, _, _, rfl, rfl, rfl, hg2⟩) rfl rfl rfl (.inl rfl) Fu23 rfl ?_; clear hS
   intro tm hS
   refine o_pure hS (.inr ⟨_, _, _, _, rfl, rfl, rfl, hg2⟩) rfl rfl ?_; clear hS
   intro tm hS
   refine o_ld1 (k := 0) hS (.inr ⟨_, _, _, _, rfl, rfl, rfl, hg2⟩) rfl rfl rfl (.inl rfl) Fu23 rfl rfl ?_; clear hS
   intro tm hS
   refine o_len (k := 5) (r := (rI .i64)) hS (.inr ⟨_, _, _, _, rfl, rfl, rfl, hg2⟩) rfl rfl rfl (.inl rfl) Fu23 rfl ?_; clear hS
   intro tm hS
   refine o_pure hS (.inr ⟨_, _, _, _, rfl, rfl, rfl, hg2⟩) rfl rfl ?_; clear hS
   intro tm hS
   refine o_pickF hS (.inl rfl) rfl rfl hg2 rfl ?_; clear hS
   intro tm hS
   have hc2 : c2 = ((a1.Data.length : Int) != (b1.Data.length : Int)) := hc2.trans (by rw [hg2]; first | rfl | simp)
   subst hc2
   exact o_nil (hS.keep (k3 rfl rfl rfl) (fun hI => (hI.sub (sc (sc (sc (sc (sc (sc sn)))))))))
 intro tm H hS
 subst hc2
 refine o_nil (hR _ _ ?_)
 clear hR R
 refine c_cond hS rfl (fun hc => ?_) (fun hc => ?_)
 ·replace h0 := iteT hc h0
  refine cr1 hS rfl rfl ?_; clear hS
  intro tm hS
  refine wpC.ret ?_
  obtain rfl := Option.some.inj h0
  refine Exists.intro _ (And.intro (rs_tmp hS rfl rs_nil) ?_)
  have hI := hS.inv
  exact ⟨rfl, (hI.sub sn)⟩
 ·replace h0 := iteF hc h0
  refine wpC.skip ?_
  refine c_seqS ?_
  refine cr1 hS rfl rfl ?_; clear hS
  intro tm hS
  obtain ⟨k1, hw1, h0⟩ := bindS h0
  refine wpC.block ?_
  refine c_loop (I := fun (s : Int) tm H => match (generalizing := false) s with | i1 => S wm 66 tm H [(2, .pointer (some ⟨b2, 0, none⟩)), (3, .pointer (some ⟨b3, 0, none⟩)), (5, .int .i64 i1)] [.box b2 [.bool a1.Char, v1, v2], .box b3 [.bool b1.Char, v3, v4], .fz (rI .i64) v1 a1.Shape, .fz (rI .i64) v2 a1.Data, .fz (rI .i64) v3 b1.Shape, .fz (rI .i64) v4 b1.Data] Fr) hw1 (by change S wm 66 _ _ _ _ Fr; exact hS.keep (k3 rfl rfl rfl) (fun hI => (((((((hI.pull 5 rfl).pull 5 rfl).pull 5 rfl).pull 5 rfl).pull 4 rfl).pull 5 rfl).take 6))) ?_
  clear hS
  intro i1 tm H c3 hS h1 hq1
  change S wm 66 tm H [(2, .pointer (some ⟨b2, 0, none⟩)), (3, .pointer (some ⟨b3, 0, none⟩)), (5, .int .i64 i1)] [.box b2 [.bool a1.Char, v1, v2], .box b3 [.bool b1.Char, v3, v4], .fz (rI .i64) v1 a1.Shape, .fz (rI .i64) v2 a1.Data, .fz (rI .i64) v3 b1.Shape, .fz (rI .i64) v4 b1.Data] Fr at hS
  refine c_seqS ?_
  refine c_reg fun R hR => ?_
  refine pp2 hS rfl rfl rfl rfl ?_; clear hS
  intro tm hS
  refine o_ld1 (k := 0) hS (.inl rfl) rfl rfl rfl (.inl rfl) Fu22 rfl rfl ?_; clear hS
  intro tm hS
  refine o_len (k := 2) (r := (rI .i64)) hS (.inl rfl) rfl rfl rfl (.inl rfl) Fu22 rfl ?_; clear hS
  intro tm hS
  refine pp1 hS rfl rfl ?_; clear hS
  intro tm hS
  refine o_nil (hR _ _ ?_)
  clear hR R
  refine c_cond hS rfl (fun hc => ?_) (fun hc => ?_)
  ·replace h1 := iteT hc h1
   refine wpC.skip ?_
   refine c_seqS ?_
   refine wpC.block ?_
   refine c_reg fun R hR => ?_
   refine pp1 hS rfl rfl ?_; clear hS
   intro tm hS
   refine o_ld1 (k := 0) hS (.inl rfl) rfl rfl rfl (.inl rfl) Fu22 rfl rfl ?_; clear hS
   intro tm hS
   refine pp1 hS rfl rfl ?_; clear hS
   intro tm hS
   obtain ⟨y1, hx1, h1⟩ := bindS h1
   refine o_ixA (k := 2) (r := (rI .i64)) hS (.inl rfl) rfl rfl rfl rfl (.inl rfl) Fu22 Fs3 hx1 ?_; clear hS
   intro tm hS
   refine o_ldF (r := (rI .i64)) (k := 2) hS (.inl rfl) rfl rfl rfl (.inl rfl) hx1 Fu3 rfl (flat_I _) rfl ?_; clear hS
   intro tm hS
   refine pp1 hS rfl rfl ?_; clear hS
   intro tm hS
   refine o_ld1 (k := 1) hS (.inl rfl) rfl rfl rfl (.inl rfl) Fu22 rfl rfl ?_; clear hS
   intro tm hS
   refine pp1 hS rfl rfl ?_; clear hS
   intro tm hS
   obtain ⟨y2, hx2, h1⟩ := bindS h1
   refine o_ixA (k := 4) (r := (rI .i64)) hS (.inl rfl) rfl rfl rfl rfl (.inl rfl) Fu22 Fs3 hx2 ?_; clear hS
   intro tm hS
   refine o_ldF (r := (rI .i64)) (k := 4) hS (.inl rfl) rfl rfl rfl (.inl rfl) hx2 Fu3 rfl (flat_I _) rfl ?_; clear hS
   intro tm hS
   refine pp1 hS rfl rfl ?_; clear hS
   intro tm hS
   refine o_nil (hR _ _ ?_)
   clear hR R
   refine c_cond hS rfl (fun hc => ?_) (fun hc => ?_)
   ·replace h1 := iteT hc h1
    refine cr1 hS rfl rfl ?_; clear hS
    intro tm hS
    refine wpC.ret ?_
    obtain rfl := Option.some.inj h1
    obtain rfl := hq1 _ rfl
    refine And.intro rfl ?_
    obtain rfl := leave h0
    refine Exists.intro _ (And.intro (rs_tmp hS rfl rs_nil) ?_)
    have hI := hS.inv
    exact ⟨rfl, (hI.sub sn)⟩
   ·replace h1 := iteF hc h1
    refine wpC.skip ?_
    refine cs3 hS rfl rfl rfl rfl rfl rfl ?_; clear hS
    intro tm hS
    obtain rfl := Option.some.inj h1
    refine ⟨_, rfl, ?_⟩
    change S wm 66 _ _ _ _ Fr; exact hS.keep (k3 rfl rfl rfl) (fun hI => (hI.sub (sc (sc (sc (sc (sc (sc sn))))))))
  ·replace h1 := iteF hc h1
   refine wpC.exit ?_
   refine seqX ?_
   obtain rfl := Option.some.inj h1
   obtain rfl := hq1 _ rfl
   refine And.intro rfl (blk_eq ?_)
   replace h0 := joinN h0
   refine c_seqS ?_
   refine cr1 hS rfl rfl ?_; clear hS
   intro tm hS
   obtain ⟨k2, hw2, h0⟩ := bindS h0
   refine wpC.block ?_
   refine c_loop (I := fun (s : Int) tm H => match (generalizing := false) s with | i2 => S wm 66 tm H [(2, .pointer (some ⟨b2, 0, none⟩)), (3, .pointer (some ⟨b3, 0, none⟩)), (6, .int .i64 i2)] [.box b2 [.bool a1.Char, v1, v2], .box b3 [.bool b1.Char, v3, v4], .fz (rI .i64) v1 a1.Shape, .fz (rI .i64) v2 a1.Data, .fz (rI .i64) v3 b1.Shape, .fz (rI .i64) v4 b1.Data] Fr) hw2 (by change S wm 66 _ _ _ _ Fr; exact hS.keep (k3 rfl rfl rfl) (fun hI => (hI.sub (sc (sc (sc (sc (sc (sc sn))))))))) ?_
   clear hS
   intro i2 tm H c4 hS h3 hq3
   change S wm 66 tm H [(2, .pointer (some ⟨b2, 0, none⟩)), (3, .pointer (some ⟨b3, 0, none⟩)), (6, .int .i64 i2)] [.box b2 [.bool a1.Char, v1, v2], .box b3 [.bool b1.Char, v3, v4], .fz (rI .i64) v1 a1.Shape, .fz (rI .i64) v2 a1.Data, .fz (rI .i64) v3 b1.Shape, .fz (rI .i64) v4 b1.Data] Fr at hS
   refine c_seqS ?_
   refine c_reg fun R hR => ?_
   refine pp2 hS rfl rfl rfl rfl ?_; clear hS
   intro tm hS
   refine o_ld1 (k := 0) hS (.inl rfl) rfl rfl rfl (.inl rfl) Fu23 rfl rfl ?_; clear hS
   intro tm hS
   refine o_len (k := 3) (r := (rI .i64)) hS (.inl rfl) rfl rfl rfl (.inl rfl) Fu23 rfl ?_; clear hS
   intro tm hS
   refine pp1 hS rfl rfl ?_; clear hS
   intro tm hS
   refine o_nil (hR _ _ ?_)
   clear hR R
   refine c_cond hS rfl (fun hc => ?_) (fun hc => ?_)
   ·replace h3 := iteT hc h3
    refine wpC.skip ?_
    refine c_seqS ?_
    refine wpC.block ?_
    refine c_reg fun R hR => ?_
    refine pp1 hS rfl rfl ?_; clear hS
    intro tm hS
    refine o_ld1 (k := 0) hS (.inl rfl) rfl rfl rfl (.inl rfl) Fu23 rfl rfl ?_; clear hS
    intro tm hS
    refine pp1 hS rfl rfl ?_; clear hS
    intro tm hS
    obtain ⟨y3, hx3, h3⟩ := bindS h3
    refine o_ixA (k := 3) (r := (rI .i64)) hS (.inl rfl) rfl rfl rfl rfl (.inl rfl) Fu23 Fs2 hx3 ?_; clear hS
    intro tm hS
    refine o_ldF (r := (rI .i64)) (k := 3) hS (.inl rfl) rfl rfl rfl (.inl rfl) hx3 Fu2 rfl (flat_I _) rfl ?_; clear hS
    intro tm hS
    refine pp1 hS rfl rfl ?_; clear hS
    intro tm hS
    refine o_ld1 (k := 1) hS (.inl rfl) rfl rfl rfl (.inl rfl) Fu23 rfl rfl ?_; clear hS
    intro tm hS
    refine pp1 hS rfl rfl ?_; clear hS
    intro tm hS
    obtain ⟨y4, hx4, h3⟩ := bindS h3
    refine o_ixA (k := 5) (r := (rI .i64)) hS (.inl rfl) rfl rfl rfl rfl (.inl rfl) Fu23 Fs2 hx4 ?_; clear hS
    intro tm hS
    refine o_ldF (r := (rI .i64)) (k := 5) hS (.inl rfl) rfl rfl rfl (.inl rfl) hx4 Fu2 rfl (flat_I _) rfl ?_; clear hS
    intro tm hS
    refine pp1 hS rfl rfl ?_; clear hS
    intro tm hS
    refine o_nil (hR _ _ ?_)
    clear hR R
    refine c_cond hS rfl (fun hc => ?_) (fun hc => ?_)
    ·replace h3 := iteT hc h3
     refine cr1 hS rfl rfl ?_; clear hS
     intro tm hS
     refine wpC.ret ?_
     obtain rfl := Option.some.inj h3
     obtain rfl := hq3 _ rfl
     refine And.intro rfl ?_
     obtain rfl := leave h0
     refine Exists.intro _ (And.intro (rs_tmp hS rfl rs_nil) ?_)
     have hI := hS.inv
     exact ⟨rfl, (hI.sub sn)⟩
    ·replace h3 := iteF hc h3
     refine wpC.skip ?_
     refine cs3 hS rfl rfl rfl rfl rfl rfl ?_; clear hS
     intro tm hS
     obtain rfl := Option.some.inj h3
     refine ⟨_, rfl, ?_⟩
     change S wm 66 _ _ _ _ Fr; exact hS.keep (k3 rfl rfl rfl) (fun hI => (hI.sub (sc (sc (sc (sc (sc (sc sn))))))))
   ·replace h3 := iteF hc h3
    refine wpC.exit ?_
    refine seqX ?_
    obtain rfl := Option.some.inj h3
    obtain rfl := hq3 _ rfl
    refine And.intro rfl (blk_eq ?_)
    replace h0 := joinN h0
    refine cr1 hS rfl rfl ?_; clear hS
    intro tm hS
    refine wpC.ret ?_
    obtain rfl := Option.some.inj h0
    refine Exists.intro _ (And.intro (rs_tmp hS rfl rs_nil) ?_)
    have hI := hS.inv
    exact ⟨rfl, (hI.sub sn)⟩
theorem wk22 {wm : Nat} {H : AHeap} {Fr : List Ent}  (v1 : Val) (e1 : Int) (want1 : Int)  (v2 : Value) (v3 : Value) (hI : Kn wm H [.fz (rI .i64) v2 v1.Shape, .fz (rI .i64) v3 v1.Data] Fr) {r : Bool} (h0 : M.anamnesislaw07_None v1 e1 want1 = some r) :
  wpF Try.prog ora wm 22 [.agg #[.bool v1.Char, v2, v3], .int .i64 e1, .int .i64 want1] H (fun res H => res = .bool r ∧ Kn wm H [] Fr) := by
 unfold M.anamnesislaw07_None at h0
 refine f_enter (n := 15) Try.func22 rfl (by simp) hI rfl rfl rfl fun tm hS => ?_
 clear hI
 refine c_reg fun R hR => ?_
 refine o_box hS (.inl rfl) rfl rfl rfl (all_cons rfl (all_cons (hS.one (k := 0) rfl (.inl rfl)) (all_cons (hS.one (k := 1) rfl (.inl rfl)) all_nil))) ?_; clear hS
 intro b1 tm H hS
 refine pp1 hS rfl rfl ?_; clear hS
 intro tm hS
 refine o_nil (hR _ _ ?_)
 clear hR R
 refine c_reg fun R hR => ?_
 refine pp4 hS rfl rfl rfl rfl rfl rfl rfl rfl ?_; clear hS
 intro tm hS
 obtain ⟨c1, hc1, h0⟩ := bindS h0
 refine o_cutN 4 (J := fun tm H => S wm 15 tm H [(14, .bool c1)] [] Fr) ?_ ?_
 ·rcases Bool.eq_false_or_eq_true (e1 == want1) with hg1 | hg1
  ·replace hc1 := iteT hg1 hc1
   refine o_ldA (k := 0) hS (.inr ⟨_, _, _, _, rfl, rfl, rfl, hg1⟩) rfl rfl rfl (.inl rfl) Fu25 rfl Fs25 rfl ?_; clear hS
   intro tm hS
   refine o_build hS (.inr ⟨_, _, _, _, rfl, rfl, rfl, hg1⟩) rfl Fb25 rfl .nil rfl ?_; clear hS
   intro tm hS
   obtain ⟨r1, hx1, hc1⟩ := bindS hc1
   refine o_call hS (.inr ⟨_, _, _, _, rfl, rfl, rfl, hg1⟩) rfl (fun wm' hw1 hw2 => wk21  v1 (Val.mk false ([]) ([]))  v2 v3 (.slice none 0 0) (.slice none 0 0) (((((hS.sel hw2).adNil (rI .i64)).adNil (rI .i64)).ad 2 rfl).ad 1 rfl) hx1) (fun wm' res H hw' hp => ?_)
   obtain ⟨hres, hI⟩ := hp
   replace hres := hres.symm; subst hres
   replace hS : S wm 15 _ H ((13, .bool r1) :: _) ([] ++ _) Fr := hS.after rfl hw' hI
   clear hI hw'
   refine o_pickT hS (.inl rfl) rfl rfl hg1 rfl ?_; clear hS
   intro tm hS
   obtain rfl := Option.some.inj hc1
   exact o_nil (hS.keep (ka_cons rfl ka_nil) (fun hI => (hI.sub sn)))
  ·replace hc1 := iteF hg1 hc1
   refine o_skip hS rfl rfl rfl hg1 ?_; clear hS
   intro tm hS
   refine o_skip hS rfl rfl rfl hg1 ?_; clear hS
   intro tm hS
   refine o_skip hS rfl rfl rfl hg1 ?_; clear hS
   intro tm hS
   refine o_pickF hS (.inl rfl) rfl rfl hg1 rfl ?_; clear hS
   intro tm hS
   obtain rfl := Option.some.inj hc1
   exact o_nil (hS.keep (ka_cons rfl ka_nil) (fun hI => (hI.sub sn)))
 intro tm H hS
 refine pp1 hS rfl rfl ?_; clear hS
 intro tm hS
 refine o_nil (hR _ _ ?_)
 clear hR R
 refine wpC.ret ?_
 obtain rfl := Option.some.inj h0
 refine Exists.intro _ (And.intro (rs_tmp hS rfl rs_nil) ?_)
 have hI := hS.inv
 exact ⟨rfl, (hI.sub sn)⟩
theorem wk20 {wm : Nat} {H : AHeap} {Fr : List Ent}  (n1 : Int)   (hI : Kn wm H [] Fr) {r : Val} (h0 : M.value_Scalar n1 = some r) :
  wpF Try.prog ora wm 20 [.int .i64 n1] H (fun res H => ∃ v2 v3, res = .agg #[.bool r.Char, v2, v3] ∧ Kn wm H [.own (rI .i64) v2 r.Shape, .own (rI .i64) v3 r.Data] Fr) := by
 unfold M.value_Scalar at h0
 refine f_enter (n := 6) Try.func20 rfl (by simp) hI rfl rfl rfl fun tm hS => ?_
 clear hI
 refine c_reg fun R hR => ?_
 refine o_alloc hS (.inl rfl) rfl Fz25 (by decide) ?_; clear hS
 intro b1 tm H hS
 refine o_nil (hR _ _ ?_)
 clear hR R
 refine c_reg fun R hR => ?_
 refine pp1 hS rfl rfl ?_; clear hS
 intro tm hS
 refine o_lit (r := (rI .i64)) (l := [n1]) hS (.inl rfl) rfl Fl23 rfl rfl rfl (.cons rfl .nil) rfl rfl (ri_1 (rd_flat fun _ => rfl) ri_nil) rfl ?_; clear hS
 intro v1 tm H hS
 refine o_build hS (.inl rfl) rfl Fb25 rfl (.cons (cells_one (hS.one (k := 0) rfl (.inr (.inr rfl)))) .nil) rfl ?_; clear hS
 intro tm hS
 refine o_st (k := 1) hS (.inl rfl) rfl rfl rfl Fs25 rfl rfl (all_cons rfl (all_cons rfl (all_cons (hS.one (k := 0) rfl (.inr (.inr rfl))) all_nil))) rfl ?_; clear hS; try clear H
 intro H hS
 refine o_nil (hR _ _ ?_)
 clear hR R
 refine wpC.ret ?_
 obtain rfl := Option.some.inj h0
 replace hS := hS.nilOwn (rI .i64)
 replace hS := hS.litOwn (k := 1) rfl
 refine Exists.intro _ (And.intro (rs_cellA (k := 2) hS rfl rfl (.inl rfl) Fu25 rfl Fs25 rfl rs_nil) ?_)
 have hI := hS.inv
 exact ⟨(.slice none 0 0), v1, rfl, (hI.sub (sc (sc sn)))⟩
theorem wk103 {wm : Nat} {H : AHeap} {Fr : List Ent}  (s1 : (List Am.Place)) (f1 : (Am.Place → Option (Bool))) (gfn1 : FuncId) (gcap1 : Array Value) (E : List Ent) (hE : ∀ e ∈ E, e.blk = none) (hf : ∀ {wm : Nat} {H : AHeap} {Fr : List Ent} (y0 : Am.Place) (v4 : Value) (v5 : Value), Kn wm H (.fz (rI .i64) v4 y0.V.Shape :: .fz (rI .i64) v5 y0.V.Data :: E) Fr → ∀ {r : Bool}, f1 y0 = some r → wpF Try.prog ora wm gfn1 ([.agg #[.bool y0.All, .bool y0.V.Char, v4, v5]] ++ gcap1.toList) H (fun res H => res = .bool r ∧ Kn wm H [] Fr)) (v1 : Value) (hI : Kn wm H (.fz rPlace v1 s1 :: E) Fr) {r : Int} (h0 : M.slices_IndexFunc__Place s1 f1 = some r) :
  wpF Try.prog ora wm 103 [v1, .func (.func gfn1) #[] gcap1] H (fun res H => res = .int .i64 r ∧ Kn wm H [] Fr) := by
 unfold M.slices_IndexFunc__Place at h0
 refine f_enter (n := 19) Try.func103 rfl (by simp) hI rfl rfl rfl fun tm hS => ?_
 clear hI
 refine cr1 hS rfl rfl ?_; clear hS
 intro tm hS
 refine c_seqS ?_
 refine c_reg fun R hR => ?_
 refine pp1 hS rfl rfl ?_; clear hS
 intro tm hS
 refine o_len (k := 0) (r := rPlace) hS (.inl rfl) rfl rfl rfl (.inl rfl) Fu51 rfl ?_; clear hS
 intro tm hS
 refine pp1 hS rfl rfl ?_; clear hS
 intro tm hS
 refine o_nil (hR _ _ ?_)
 clear hR R
 obtain ⟨k1, hw1, h0⟩ := bindS h0
 refine wpC.block ?_
 refine c_loop (I := fun (s : Int) tm H => match (generalizing := false) s with | t1 => S wm 19 tm H [(0, v1), (1, .func (.func gfn1) #[] gcap1), (7, .int .i64 (s1.length : Int)), (8, .int .i64 t1)] (.fz rPlace v1 s1 :: E) Fr) hw1 (by change S wm 19 _ _ _ _ Fr; exact hS.keep (k4 rfl rfl rfl rfl) (fun hI => (hI.sub (sc sr)))) ?_
 clear hS
 intro t1 tm H c1 hS h1 hq1
 change S wm 19 tm H [(0, v1), (1, .func (.func gfn1) #[] gcap1), (7, .int .i64 (s1.length : Int)), (8, .int .i64 t1)] (.fz rPlace v1 s1 :: E) Fr at hS
 refine cr1 hS rfl rfl ?_; clear hS
 intro tm hS
 refine c_seqS ?_
 refine c_cond hS rfl (fun hc => ?_) (fun hc => ?_)
 ·replace h1 := iteT hc h1
  refine wpC.skip ?_
  refine c_seqS ?_
  refine wpC.block ?_
  refine cr2 hS rfl rfl rfl rfl ?_; clear hS
  intro tm hS
  refine c_reg fun R hR => ?_
  refine pp3 hS rfl rfl rfl rfl rfl rfl ?_; clear hS
  intro tm hS
  obtain ⟨y1, hx1, h1⟩ := bindS h1
  refine o_ixA (k := 0) (r := rPlace) hS (.inl rfl) rfl rfl rfl rfl (.inl rfl) Fu51 Fs53 hx1 ?_; clear hS
  intro tm hS
  refine o_ldPlace (k := 0) hS (.inl rfl) rfl rfl rfl (.inl rfl) hx1 Fu53 rfl Fs53 rfl ?_; clear hS
  intro v2 v3 tm hS
  obtain ⟨r1, hx2, h1⟩ := bindS h1
  refine o_call hS (.inl rfl) rfl (fun wm' hw1 hw2 => hf y1 v2 v3 ((((hS.sel hw2).adAll hE (fun e he => List.mem_cons_of_mem _ (List.mem_cons_of_mem _ (List.mem_cons_of_mem _ (he))))).ad 1 rfl).ad 0 rfl) hx2) (fun wm' res H hw' hp => ?_)
  obtain ⟨hres, hI⟩ := hp
  replace hres := hres.symm; subst hres
  replace hS : S wm 19 _ H ((16, .bool r1) :: _) ([] ++ _) Fr := hS.after rfl hw' hI
  clear hI hw'
  refine o_nil (hR _ _ ?_)
  clear hR R
  refine c_cond hS rfl (fun hc => ?_) (fun hc => ?_)
  ·replace h1 := iteT hc h1
   refine cr2 hS rfl rfl rfl rfl ?_; clear hS
   intro tm hS
   refine wpC.ret ?_
   obtain rfl := Option.some.inj h1
   obtain rfl := hq1 _ rfl
   refine And.intro rfl ?_
   obtain rfl := leave h0
   refine Exists.intro _ (And.intro (rs_tmp hS rfl rs_nil) ?_)
   have hI := hS.inv
   exact ⟨rfl, (hI.sub sn)⟩
  ·replace h1 := iteF hc h1
   refine wpC.skip ?_
   refine cs2 hS rfl rfl rfl rfl ?_; clear hS
   intro tm hS
   obtain rfl := Option.some.inj h1
   refine ⟨_, rfl, ?_⟩
   change S wm 19 _ _ _ _ Fr; exact hS.keep (k4 rfl rfl rfl rfl) (fun hI => (hI.sub (sd (sd (sc sr)))))
 ·replace h1 := iteF hc h1
  refine wpC.exit ?_
  refine seqX ?_
  obtain rfl := Option.some.inj h1
  obtain rfl := hq1 _ rfl
  refine And.intro rfl (blk_eq ?_)
  replace h0 := joinN h0
  refine cr1 hS rfl rfl ?_; clear hS
  intro tm hS
  refine wpC.ret ?_
  obtain rfl := Option.some.inj h0
  refine Exists.intro _ (And.intro (rs_tmp hS rfl rs_nil) ?_)
  have hI := hS.inv
  exact ⟨rfl, (hI.sub sn)⟩
theorem wk95 {wm : Nat} {H : AHeap} {Fr : List Ent}  (s1 : (List Am.Place)) (f1 : (Am.Place → Option (Bool))) (gfn1 : FuncId) (gcap1 : Array Value) (E : List Ent) (hE : ∀ e ∈ E, e.blk = none) (hf : ∀ {wm : Nat} {H : AHeap} {Fr : List Ent} (y0 : Am.Place) (v2 : Value) (v3 : Value), Kn wm H (.fz (rI .i64) v2 y0.V.Shape :: .fz (rI .i64) v3 y0.V.Data :: E) Fr → ∀ {r : Bool}, f1 y0 = some r → wpF Try.prog ora wm gfn1 ([.agg #[.bool y0.All, .bool y0.V.Char, v2, v3]] ++ gcap1.toList) H (fun res H => res = .bool r ∧ Kn wm H [] Fr)) (v1 : Value) (hI : Kn wm H (.fz rPlace v1 s1 :: E) Fr) {r : Bool} (h0 : M.slices_ContainsFunc__Place s1 f1 = some r) :
  wpF Try.prog ora wm 95 [v1, .func (.func gfn1) #[] gcap1] H (fun res H => res = .bool r ∧ Kn wm H [] Fr) := by
 unfold M.slices_ContainsFunc__Place at h0
 refine f_enter (n := 9) Try.func95 rfl (by simp) hI rfl rfl rfl fun tm hS => ?_
 clear hI
 refine cr1 hS rfl rfl ?_; clear hS
 intro tm hS
 refine c_reg fun R hR => ?_
 refine pp2 hS rfl rfl rfl rfl ?_; clear hS
 intro tm hS
 obtain ⟨r1, hx1, h0⟩ := bindS h0
 refine o_call hS (.inl rfl) rfl (fun wm' hw1 hw2 => wk103  s1 f1 gfn1 gcap1 E hE hf v1 (((hS.sel hw2).adAll hE (fun e he => List.mem_cons_of_mem _ (he))).ad 0 rfl) hx1) (fun wm' res H hw' hp => ?_)
 obtain ⟨hres, hI⟩ := hp
 replace hres := hres.symm; subst hres
 replace hS : S wm 9 _ H ((7, .int .i64 r1) :: _) ([] ++ _) Fr := hS.after rfl hw' hI
 clear hI hw'
 refine pp2 hS rfl rfl rfl rfl ?_; clear hS
 intro tm hS
 refine o_nil (hR _ _ ?_)
 clear hR R
 refine wpC.ret ?_
 obtain rfl := Option.some.inj h0
 refine Exists.intro _ (And.intro (rs_tmp hS rfl rs_nil) ?_)
 have hI := hS.inv
 exact ⟨rfl, (hI.sub sn)⟩
theorem wk96 {wm : Nat} {H : AHeap} {Fr : List Ent}  (p1 : Am.Place)  (v1 : Value) (v2 : Value) (hI : Kn wm H [.fz (rI .i64) v1 p1.V.Shape, .fz (rI .i64) v2 p1.V.Data] Fr) {r : Bool} (h0 : M.index_shaped_1 p1 = some r) :
  wpF Try.prog ora wm 96 [.agg #[.bool p1.All, .bool p1.V.Char, v1, v2]] H (fun res H => res = .bool r ∧ Kn wm H [] Fr) := by
 unfold M.index_shaped_1 at h0
 refine f_enter (n := 12) Try.func96 rfl (by simp) hI rfl rfl rfl fun tm hS => ?_
 clear hI
 refine c_reg fun R hR => ?_
 refine o_box hS (.inl rfl) rfl rfl rfl (all_cons rfl (all_cons rfl (all_cons (hS.one (k := 0) rfl (.inl rfl)) (all_cons (hS.one (k := 1) rfl (.inl rfl)) all_nil)))) ?_; clear hS
 intro b1 tm H hS
 refine pp1 hS rfl rfl ?_; clear hS
 intro tm hS
 refine o_nil (hR _ _ ?_)
 clear hR R
 refine c_reg fun R hR => ?_
 refine pp1 hS rfl rfl ?_; clear hS
 intro tm hS
 refine o_ld1 (k := 0) hS (.inl rfl) rfl rfl rfl (.inl rfl) Fu4 rfl rfl ?_; clear hS
 intro tm hS
 refine pp2 hS rfl rfl rfl rfl ?_; clear hS
 intro tm hS
 obtain ⟨c1, hc1, h0⟩ := bindS h0
 refine o_cutN 5 (J := fun tm H => S wm 12 tm H [(11, .bool c1)] [] Fr) ?_ ?_
 ·rcases Bool.eq_false_or_eq_true (!p1.All) with hg1 | hg1
  ·replace hc1 := iteT hg1 hc1
   refine o_pure hS (.inr ⟨_, _, _, _, rfl, rfl, rfl, hg1⟩) rfl rfl ?_; clear hS
   intro tm hS
   refine o_ldA (k := 0) hS (.inr ⟨_, _, _, _, rfl, rfl, rfl, hg1⟩) rfl rfl rfl (.inl rfl) Fu25 rfl Fs25 rfl ?_; clear hS
   intro tm hS
   obtain ⟨r1, hx1, hc1⟩ := bindS hc1
   refine o_call hS (.inr ⟨_, _, _, _, rfl, rfl, rfl, hg1⟩) rfl (fun wm' hw1 hw2 => wk53  p1.V  v1 v2 (((hS.sel hw2).ad 2 rfl).ad 1 rfl) hx1) (fun wm' res H hw' hp => ?_)
   obtain ⟨hres, hI⟩ := hp
   replace hres := hres.symm; subst hres
   replace hS : S wm 12 _ H ((9, .bool r1) :: _) ([] ++ _) Fr := hS.after rfl hw' hI
   clear hI hw'
   refine o_pure hS (.inr ⟨_, _, _, _, rfl, rfl, rfl, hg1⟩) rfl rfl ?_; clear hS
   intro tm hS
   refine o_pickT hS (.inl rfl) rfl rfl hg1 rfl ?_; clear hS
   intro tm hS
   obtain rfl := Option.some.inj hc1
   exact o_nil (hS.keep (ka_cons rfl ka_nil) (fun hI => (hI.sub sn)))
  ·replace hc1 := iteF hg1 hc1
   refine o_skip hS rfl rfl rfl hg1 ?_; clear hS
   intro tm hS
   refine o_skip hS rfl rfl rfl hg1 ?_; clear hS
   intro tm hS
   refine o_skip hS rfl rfl rfl hg1 ?_; clear hS
   intro tm hS
   refine o_skip hS rfl rfl rfl hg1 ?_; clear hS
   intro tm hS
   refine o_pickF hS (.inl rfl) rfl rfl hg1 rfl ?_; clear hS
   intro tm hS
   obtain rfl := Option.some.inj hc1
   exact o_nil (hS.keep (ka_cons rfl ka_nil) (fun hI => (hI.sub sn)))
 intro tm H hS
 refine pp1 hS rfl rfl ?_; clear hS
 intro tm hS
 refine o_nil (hR _ _ ?_)
 clear hR R
 refine wpC.ret ?_
 obtain rfl := Option.some.inj h0
 refine Exists.intro _ (And.intro (rs_tmp hS rfl rs_nil) ?_)
 have hI := hS.inv
 exact ⟨rfl, (hI.sub sn)⟩
theorem wk97 {wm : Nat} {H : AHeap} {Fr : List Ent}  (p1 : Am.Place) (n1 : Int)  (v1 : Value) (v2 : Value) (hI : Kn wm H [.fz (rI .i64) v1 p1.V.Shape, .fz (rI .i64) v2 p1.V.Data] Fr) {r : (List Int)} (h0 : M.index_Place_lengths p1 n1 = some r) :
  wpF Try.prog ora wm 97 [.agg #[.bool p1.All, .bool p1.V.Char, v1, v2], .int .i64 n1] H (fun res H => ∃ v4, res = v4 ∧ Kn wm H [.fz (rI .i64) v4 r] Fr) := by
 unfold M.index_Place_lengths at h0
 refine f_enter (n := 12) Try.func97 rfl (by simp) hI rfl rfl rfl fun tm hS => ?_
 clear hI
 refine c_reg fun R hR => ?_
 refine o_box hS (.inl rfl) rfl rfl rfl (all_cons rfl (all_cons rfl (all_cons (hS.one (k := 0) rfl (.inl rfl)) (all_cons (hS.one (k := 1) rfl (.inl rfl)) all_nil)))) ?_; clear hS
 intro b1 tm H hS
 refine pp1 hS rfl rfl ?_; clear hS
 intro tm hS
 refine o_nil (hR _ _ ?_)
 clear hR R
 refine c_seqS ?_
 refine c_reg fun R hR => ?_
 refine pp1 hS rfl rfl ?_; clear hS
 intro tm hS
 refine o_ld1 (k := 0) hS (.inl rfl) rfl rfl rfl (.inl rfl) Fu4 rfl rfl ?_; clear hS
 intro tm hS
 refine o_nil (hR _ _ ?_)
 clear hR R
 refine c_cond hS rfl (fun hc => ?_) (fun hc => ?_)
 ·replace h0 := iteT hc h0
  refine c_reg fun R hR => ?_
  refine pp1 hS rfl rfl ?_; clear hS
  intro tm hS
  refine o_lit (r := (rI .i64)) (l := [n1]) hS (.inl rfl) rfl Fl22 rfl rfl rfl (.cons rfl .nil) rfl rfl (ri_1 (rd_flat fun _ => rfl) ri_nil) rfl ?_; clear hS
  intro v3 tm H hS
  refine pp1 hS rfl rfl ?_; clear hS
  intro tm hS
  refine o_nil (hR _ _ ?_)
  clear hR R
  refine wpC.ret ?_
  obtain rfl := Option.some.inj h0
  replace hS := hS.litFrz (k := 0) rfl
  refine Exists.intro _ (And.intro (rs_tmp hS rfl rs_nil) ?_)
  have hI := hS.inv
  exact ⟨v3, rfl, (hI.sub (sc sn))⟩
 ·replace h0 := iteF hc h0
  refine wpC.skip ?_
  refine c_reg fun R hR => ?_
  refine pp2 hS rfl rfl rfl rfl ?_; clear hS
  intro tm hS
  refine o_ld1 (k := 0) hS (.inl rfl) rfl rfl rfl (.inl rfl) Fu22 rfl rfl ?_; clear hS
  intro tm hS
  refine pp1 hS rfl rfl ?_; clear hS
  intro tm hS
  refine o_nil (hR _ _ ?_)
  clear hR R
  refine wpC.ret ?_
  obtain rfl := Option.some.inj h0
  refine Exists.intro _ (And.intro (rs_tmp hS rfl rs_nil) ?_)
  have hI := hS.inv
  exact ⟨v1, rfl, (hI.sub (sd (sc sn)))⟩
theorem wk78 {wm : Nat} {H : AHeap} {Fr : List Ent}  (v1 : Val) (places1 : (List Am.Place))  (v2 : Value) (v3 : Value) (v4 : Value) (hI : Kn wm H [.fz (rI .i64) v2 v1.Shape, .fz (rI .i64) v3 v1.Data, .fz rPlace v4 places1] Fr) {r : (List Int) × Int} (h0 : M.index_shaped v1 places1 = some r) :
  wpF Try.prog ora wm 78 [.agg #[.bool v1.Char, v2, v3], v4] H (fun res H => ∃ v11, res = .tuple #[v11, .int .i64 r.2] ∧ Kn wm H [.own (rI .i64) v11 r.1] Fr) := by
 unfold M.index_shaped at h0
 refine f_enter (n := 50) Try.func78 rfl (by simp) hI rfl rfl rfl fun tm hS => ?_
 clear hI
 refine c_reg fun R hR => ?_
 refine o_box hS (.inl rfl) rfl rfl rfl (all_cons rfl (all_cons (hS.one (k := 0) rfl (.inl rfl)) (all_cons (hS.one (k := 1) rfl (.inl rfl)) all_nil))) ?_; clear hS
 intro b1 tm H hS
 refine pp2 hS rfl rfl rfl rfl ?_; clear hS
 intro tm hS
 refine o_nil (hR _ _ ?_)
 clear hR R
 refine c_seqS ?_
 refine c_reg fun R hR => ?_
 refine o_ldA (k := 0) hS (.inl rfl) rfl rfl rfl (.inl rfl) Fu25 rfl Fs25 rfl ?_; clear hS
 intro tm hS
 obtain ⟨r1, hx1, h0⟩ := bindS h0
 refine o_call hS (.inl rfl) rfl (fun wm' hw1 hw2 => wk53  v1  v2 v3 (((hS.sel hw2).ad 2 rfl).ad 1 rfl) hx1) (fun wm' res H hw' hp => ?_)
 obtain ⟨hres, hI⟩ := hp
 replace hres := hres.symm; subst hres
 replace hS : S wm 50 _ H ((10, .bool r1) :: _) ([] ++ _) Fr := hS.after rfl hw' hI
 clear hI hw'
 refine pp2 hS rfl rfl rfl rfl ?_; clear hS
 intro tm hS
 obtain ⟨c1, hc1, h0⟩ := bindS h0
 refine o_cutN 3 (J := fun tm H => S wm 50 tm H [(15, .bool c1), (1, v4), (2, .pointer (some ⟨b1, 0, none⟩))] [.box b1 [.bool v1.Char, v2, v3], .fz (rI .i64) v2 v1.Shape, .fz (rI .i64) v3 v1.Data, .fz rPlace v4 places1] Fr) ?_ ?_
 ·rcases Bool.eq_false_or_eq_true (!r1) with hg1 | hg1
  ·replace hc1 := iteT hg1 hc1
   refine o_skip hS rfl rfl rfl hg1 ?_; clear hS
   intro tm hS
   refine o_skip hS rfl rfl rfl hg1 ?_; clear hS
   intro tm hS
   refine o_pickT hS (.inl rfl) rfl rfl hg1 rfl ?_; clear hS
   intro tm hS
   obtain rfl := Option.some.inj hc1
   exact o_nil (hS.keep (k3 rfl rfl rfl) (fun hI => (hI.sub (sc (sc (sc (sc sn)))))))
  ·replace hc1 := iteF hg1 hc1
   refine o_pure hS (.inr ⟨_, _, _, _, rfl, rfl, rfl, hg1⟩) rfl rfl ?_; clear hS
   intro tm hS
   obtain ⟨r2, hx2, hc1⟩ := bindS hc1
   refine o_call hS (.inr ⟨_, _, _, _, rfl, rfl, rfl, hg1⟩) rfl (fun wm' hw1 hw2 => wk95  places1 (fun x0 => M.index_shaped_1 x0) 96 #[] [] (by simp [Ent.blk]) (fun x0 u0_0 u0_1 hI _ h0 => wk96  x0  u0_0 u0_1 hI h0) v4 ((hS.sel hw2).ad 3 rfl) hx2) (fun wm' res H hw' hp => ?_)
   obtain ⟨hres, hI⟩ := hp
   replace hres := hres.symm; subst hres
   replace hS : S wm 50 _ H ((14, .bool r2) :: _) ([] ++ _) Fr := hS.after rfl hw' hI
   clear hI hw'
   refine o_pickF hS (.inl rfl) rfl rfl hg1 rfl ?_; clear hS
   intro tm hS
   obtain rfl := Option.some.inj hc1
   exact o_nil (hS.keep (k3 rfl rfl rfl) (fun hI => (hI.sub (sc (sc (sc (sc sn)))))))
 intro tm H hS
 refine o_nil (hR _ _ ?_)
 clear hR R
 refine c_cond hS rfl (fun hc => ?_) (fun hc => ?_)
 ·replace h0 := iteT hc h0
  refine cr2 hS rfl rfl rfl rfl ?_; clear hS
  intro tm hS
  refine wpC.ret ?_
  obtain rfl := Option.some.inj h0
  replace hS := hS.nilOwn (rI .i64)
  refine Exists.intro _ (And.intro (rs_tmp hS rfl (rs_tmp hS rfl rs_nil)) ?_)
  have hI := hS.inv
  exact ⟨(.slice none 0 0), rfl, (hI.sub (sc sn))⟩
 ·replace h0 := iteF hc h0
  refine wpC.skip ?_
  refine c_seqS ?_
  refine c_reg fun R hR => ?_
  refine pp1 hS rfl rfl ?_; clear hS
  intro tm hS
  refine o_ld1 (k := 0) hS (.inl rfl) rfl rfl rfl (.inl rfl) Fu22 rfl rfl ?_; clear hS
  intro tm hS
  refine o_len (k := 1) (r := (rI .i64)) hS (.inl rfl) rfl rfl rfl (.inl rfl) Fu22 rfl ?_; clear hS
  intro tm hS
  refine pp2 hS rfl rfl rfl rfl ?_; clear hS
  intro tm hS
  obtain ⟨c2, hc2⟩ : ∃ x : Bool, x = (((v1.Shape.length : Int) == 0) || ((places1.length : Int) != (v1.Shape.length : Int))) := ⟨_, rfl⟩
  refine o_cutN 7 (J := fun tm H => S wm 50 tm H [(27, .bool c2), (1, v4), (2, .pointer (some ⟨b1, 0, none⟩))] [.box b1 [.bool v1.Char, v2, v3], .fz (rI .i64) v2 v1.Shape, .fz (rI .i64) v3 v1.Data, .fz rPlace v4 places1] Fr) ?_ ?_
  ·rcases Bool.eq_false_or_eq_true ((v1.Shape.length : Int) == 0) with hg2 | hg2
   ·refine o_skip hS rfl rfl rfl hg2 ?_; clear hS
    intro tm hS
    refine o_skip hS rfl rfl rfl hg2 ?_; clear hS
    intro tm hS
    refine o_skip hS rfl rfl rfl hg2 ?_; clear hS
    intro tm hS
    refine o_skip hS rfl rfl rfl hg2 ?_; clear hS
    intro tm hS
    refine o_skip hS rfl rfl rfl hg2 ?_; clear hS
    intro tm hS
    refine o_skip hS rfl rfl rfl hg2 ?_; clear hS
    intro tm hS
    refine o_pickT hS (.inl rfl) rfl rfl hg2 rfl ?_; clear hS
    intro tm hS
    have hc2 : c2 = true := hc2.trans (by rw [hg2]; first | rfl | simp)
    subst hc2
    exact o_nil (hS.keep (k3 rfl rfl rfl) (fun hI => (hI.sub (sc (sc (sc (sc sn)))))))
   ·refine o_pure hS (.inr ⟨_, _, _, _, rfl, rfl, rfl, hg2⟩) rfl rfl ?_; clear hS
    intro tm hS
    refine o_len (k := 3) (r := rPlace) hS (.inr ⟨_, _, _, _, rfl, rfl, rfl, hg2⟩) rfl rfl rfl (.inl rfl) Fu51 rfl ?_; clear hS
    intro tm hS
    refine o_pure hS (.inr ⟨_, _, _, _, rfl, rfl, rfl, hg2⟩) rfl rfl ?_; clear hS
    intro tm hS
    refine o_ld1 (k := 0) hS (.inr ⟨_, _, _, _, rfl, rfl, rfl, hg2⟩) rfl rfl rfl (.inl rfl) Fu22 rfl rfl ?_; clear hS
    intro tm hS
    refine o_len (k := 1) (r := (rI .i64)) hS (.inr ⟨_, _, _, _, rfl, rfl, rfl, hg2⟩) rfl rfl rfl (.inl rfl) Fu22 rfl ?_; clear hS
    intro tm hS
    refine o_pure hS (.inr ⟨_, _, _, _, rfl, rfl, rfl, hg2⟩) rfl rfl ?_; clear hS
    intro tm hS
    refine o_pickF hS (.inl rfl) rfl rfl hg2 rfl ?_; clear hS
    intro tm hS
    have hc2 : c2 = ((places1.length : Int) != (v1.Shape.length : Int)) := hc2.trans (by rw [hg2]; first | rfl | simp)
    subst hc2
    exact o_nil (hS.keep (k3 rfl rfl rfl) (fun hI => (hI.sub (sc (sc (sc (sc sn)))))))
  intro tm H hS
  subst hc2
  refine o_nil (hR _ _ ?_)
  clear hR R
  refine c_cond hS rfl (fun hc => ?_) (fun hc => ?_)
  ·replace h0 := iteT hc h0
   refine cr2 hS rfl rfl rfl rfl ?_; clear hS
   intro tm hS
   refine wpC.ret ?_
   obtain rfl := Option.some.inj h0
   replace hS := hS.nilOwn (rI .i64)
   refine Exists.intro _ (And.intro (rs_tmp hS rfl (rs_tmp hS rfl rs_nil)) ?_)
   have hI := hS.inv
   exact ⟨(.slice none 0 0), rfl, (hI.sub (sc sn))⟩
  ·replace h0 := iteF hc h0
   refine wpC.skip ?_
   refine c_reg fun R hR => ?_
   refine o_lit (r := (rI .i64)) (l := ([] : List Int)) hS (.inl rfl) rfl Fl22 rfl rfl rfl .nil rfl rfl ri_nil rfl ?_; clear hS
   intro v5 tm H hS
   refine pp1 hS rfl rfl ?_; clear hS
   intro tm hS
   refine o_nil (hR _ _ ?_)
   clear hR R
   refine c_seqS ?_
   refine c_reg fun R hR => ?_
   refine pp1 hS rfl rfl ?_; clear hS
   intro tm hS
   refine o_len (k := 4) (r := rPlace) hS (.inl rfl) rfl rfl rfl (.inl rfl) Fu51 rfl ?_; clear hS
   intro tm hS
   refine pp1 hS rfl rfl ?_; clear hS
   intro tm hS
   refine o_nil (hR _ _ ?_)
   clear hR R
   obtain ⟨k1, hw1, h0⟩ := bindS h0
   refine wpC.block ?_
   replace hS := hS.litOwn (k := 0) rfl
   refine c_loop (I := fun (s : (List Int) × Int) tm H => match (generalizing := false) s with | (s1, t1) => ∃ v6, S wm 50 tm H [(2, .pointer (some ⟨b1, 0, none⟩)), (6, v6), (29, v4), (30, .int .i64 (places1.length : Int)), (31, .int .i64 t1)] [.box b1 [.bool v1.Char, v2, v3], .own (rI .i64) v6 s1, .fz (rI .i64) v2 v1.Shape, .fz (rI .i64) v3 v1.Data, .fz rPlace v4 places1] Fr) hw1 (by refine Exists.intro v5 ?_; change S wm 50 _ _ _ _ Fr; exact hS.keep (k5 rfl rfl rfl rfl rfl) (fun hI => ((((((hI.pull 4 rfl).pull 4 rfl).pull 4 rfl).pull 3 rfl).pull 4 rfl).take 5))) ?_
   clear hS
   intro s2 tm H c3 hS h1 hq1
   obtain ⟨s1, t1⟩ := s2
   obtain ⟨v6, hS⟩ := hS
   change S wm 50 tm H [(2, .pointer (some ⟨b1, 0, none⟩)), (6, v6), (29, v4), (30, .int .i64 (places1.length : Int)), (31, .int .i64 t1)] [.box b1 [.bool v1.Char, v2, v3], .own (rI .i64) v6 s1, .fz (rI .i64) v2 v1.Shape, .fz (rI .i64) v3 v1.Data, .fz rPlace v4 places1] Fr at hS
   refine cr1 hS rfl rfl ?_; clear hS
   intro tm hS
   refine c_seqS ?_
   refine c_cond hS rfl (fun hc => ?_) (fun hc => ?_)
   ·replace h1 := iteT hc h1
    refine wpC.skip ?_
    refine c_seqS ?_
    refine wpC.block ?_
    refine c_reg fun R hR => ?_
    refine pp1 hS rfl rfl ?_; clear hS
    intro tm hS
    obtain ⟨y1, hx3, h1⟩ := bindS h1
    refine o_ixA (k := 4) (r := rPlace) hS (.inl rfl) rfl rfl rfl rfl (.inl rfl) Fu51 Fs53 hx3 ?_; clear hS
    intro tm hS
    refine o_ldPlace (k := 4) hS (.inl rfl) rfl rfl rfl (.inl rfl) hx3 Fu53 rfl Fs53 rfl ?_; clear hS
    intro v7 v8 tm hS
    refine o_alloc hS (.inl rfl) rfl Fz53 (by decide) ?_; clear hS
    intro b2 tm H hS
    refine pp1 hS rfl rfl ?_; clear hS
    intro tm hS
    refine o_st (k := 0) hS (.inl rfl) rfl rfl rfl Fs53 rfl rfl (all_cons rfl (all_cons rfl (all_cons (hS.one (k := 1) rfl (.inl rfl)) (all_cons (hS.one (k := 2) rfl (.inl rfl)) all_nil)))) rfl ?_; clear hS; try clear H
    intro H hS
    refine o_nil (hR _ _ ?_)
    clear hR R
    refine c_reg1 fun R hR => ?_
    refine pp1 hS rfl rfl ?_; clear hS
    intro tm hS
    refine o_ldA (k := 0) hS (.inl rfl) rfl rfl rfl (.inl rfl) Fu53 rfl Fs53 rfl ?_; clear hS
    intro tm hS
    refine pp1 hS rfl rfl ?_; clear hS
    intro tm hS
    refine o_ld1 (k := 3) hS (.inl rfl) rfl rfl rfl (.inl rfl) Fu22 rfl rfl ?_; clear hS
    intro tm hS
    refine pp1 hS rfl rfl ?_; clear hS
    intro tm hS
    obtain ⟨y2, hx4, h1⟩ := bindS h1
    refine o_ixA (k := 5) (r := (rI .i64)) hS (.inl rfl) rfl rfl rfl rfl (.inl rfl) Fu22 Fs3 hx4 ?_; clear hS
    intro tm hS
    refine o_ldF (r := (rI .i64)) (k := 5) hS (.inl rfl) rfl rfl rfl (.inl rfl) hx4 Fu3 rfl (flat_I _) rfl ?_; clear hS
    intro tm hS
    obtain ⟨r3, hx5, h1⟩ := bindS h1
    refine o_call hS (.inl rfl) rfl (fun wm' hw1 hw2 => wk97  y1 y2  v7 v8 (((hS.sel hw2).ad 2 rfl).ad 1 rfl) hx5) (fun wm' res H hw' hp => ?_)
    obtain ⟨v9, hres, hI⟩ := hp
    replace hres := hres.symm; subst hres
    replace hS : S wm 50 _ H ((43, v9) :: _) ([.fz (rI .i64) v9 r3] ++ _) Fr := hS.after rfl hw' hI
    clear hI hw'
    obtain ⟨l1, hx6, h1⟩ := bindS h1
    refine o_app (k1 := 5) (k2 := 0) (r := (rI .i64)) hS (.inl rfl) rfl rfl rfl rfl rfl (.inl rfl) rfl Fe22_22 rfl hx6 ?_; clear hS
    intro v10 tm H hS
    refine pp1 hS rfl rfl ?_; clear hS
    intro tm hS
    refine o_nil (hR _ _ ?_)
    clear hR R
    refine cs2 hS rfl rfl rfl rfl ?_; clear hS
    intro tm hS
    obtain rfl := Option.some.inj h1
    refine ⟨_, rfl, ?_⟩
    refine Exists.intro v10 ?_; change S wm 50 _ _ _ _ Fr; exact hS.keep (k5 rfl rfl rfl rfl rfl) (fun hI => (hI.sub (sd (sd (sd (sd (sc (sc (sc (sc (sc sn)))))))))))
   ·replace h1 := iteF hc h1
    refine wpC.exit ?_
    refine seqX ?_
    obtain rfl := Option.some.inj h1
    obtain rfl := hq1 _ rfl
    refine And.intro rfl (blk_eq ?_)
    replace h0 := joinN h0
    refine c_seqS ?_
    refine c_reg fun R hR => ?_
    refine pp1 hS rfl rfl ?_; clear hS
    intro tm hS
    refine o_len (k := 1) (r := (rI .i64)) hS (.inl rfl) rfl rfl rfl (.inr (.inl rfl)) Fu22 rfl ?_; clear hS
    intro tm hS
    refine pp1 hS rfl rfl ?_; clear hS
    intro tm hS
    refine o_nil (hR _ _ ?_)
    clear hR R
    refine c_cond hS rfl (fun hc => ?_) (fun hc => ?_)
    ·replace h0 := iteT hc h0
     refine cr2 hS rfl rfl rfl rfl ?_; clear hS
     intro tm hS
     refine wpC.ret ?_
     obtain rfl := Option.some.inj h0
     replace hS := hS.nilOwn (rI .i64)
     refine Exists.intro _ (And.intro (rs_tmp hS rfl (rs_tmp hS rfl rs_nil)) ?_)
     have hI := hS.inv
     exact ⟨(.slice none 0 0), rfl, (hI.sub (sc sn))⟩
    ·replace h0 := iteF hc h0
     refine wpC.skip ?_
     refine cr3 hS rfl rfl rfl rfl rfl rfl ?_; clear hS
     intro tm hS
     refine wpC.ret ?_
     obtain rfl := Option.some.inj h0
     refine Exists.intro _ (And.intro (rs_tmp hS rfl (rs_tmp hS rfl rs_nil)) ?_)
     have hI := hS.inv
     exact ⟨v6, rfl, (hI.sub (sd (sc sn)))⟩
theorem wk79 {wm : Nat} {H : AHeap} {Fr : List Ent}  (p1 : Am.Place) (n1 : Int)  (v1 : Value) (v2 : Value) (hI : Kn wm H [.fz (rI .i64) v1 p1.V.Shape, .fz (rI .i64) v2 p1.V.Data] Fr) {r : (List Int) × Int} (h0 : M.index_Place_indexes p1 n1 = some r) :
  wpF Try.prog ora wm 79 [.agg #[.bool p1.All, .bool p1.V.Char, v1, v2], .int .i64 n1] H (fun res H => ∃ v9, res = .tuple #[v9, .int .i64 r.2] ∧ Kn wm H [.own (rI .i64) v9 r.1] Fr) := by
 unfold M.index_Place_indexes at h0
 refine f_enter (n := 54) Try.func79 rfl (by simp) hI rfl rfl rfl fun tm hS => ?_
 clear hI
 refine c_reg fun R hR => ?_
 refine o_box hS (.inl rfl) rfl rfl rfl (all_cons rfl (all_cons rfl (all_cons (hS.one (k := 0) rfl (.inl rfl)) (all_cons (hS.one (k := 1) rfl (.inl rfl)) all_nil)))) ?_; clear hS
 intro b1 tm H hS
 refine pp2 hS rfl rfl rfl rfl ?_; clear hS
 intro tm hS
 refine o_nil (hR _ _ ?_)
 clear hR R
 refine cr1 hS rfl rfl ?_; clear hS
 intro tm hS
 refine c_seqS ?_
 refine c_reg fun R hR => ?_
 refine pp1 hS rfl rfl ?_; clear hS
 intro tm hS
 refine o_ld1 (k := 0) hS (.inl rfl) rfl rfl rfl (.inl rfl) Fu4 rfl rfl ?_; clear hS
 intro tm hS
 refine o_nil (hR _ _ ?_)
 clear hR R
 refine c_cond hS rfl (fun hc => ?_) (fun hc => ?_)
 ·replace h0 := iteT hc h0
  refine c_seqS ?_
  refine cr2 hS rfl rfl rfl rfl ?_; clear hS
  intro tm hS
  obtain ⟨k1, hw1, h0⟩ := bindS h0
  refine wpC.block ?_
  replace hS := hS.nilOwn (rI .i64)
  refine c_loop (I := fun (s : (List Int) × Int) tm H => match (generalizing := false) s with | (out1, t1) => ∃ v3, S wm 54 tm H [(6, v3), (12, .int .i64 n1), (13, .int .i64 t1)] [.own (rI .i64) v3 out1] Fr) hw1 (by refine Exists.intro (.slice none 0 0) ?_; change S wm 54 _ _ _ _ Fr; exact hS.keep (k3 rfl rfl rfl) (fun hI => (hI.sub (sc sn)))) ?_
  clear hS
  intro s1 tm H c1 hS h1 hq1
  obtain ⟨out1, t1⟩ := s1
  obtain ⟨v3, hS⟩ := hS
  change S wm 54 tm H [(6, v3), (12, .int .i64 n1), (13, .int .i64 t1)] [.own (rI .i64) v3 out1] Fr at hS
  refine cr1 hS rfl rfl ?_; clear hS
  intro tm hS
  refine c_seqS ?_
  refine c_cond hS rfl (fun hc => ?_) (fun hc => ?_)
  ·replace h1 := iteT hc h1
   refine wpC.skip ?_
   refine c_seqS ?_
   refine wpC.block ?_
   refine cr2 hS rfl rfl rfl rfl ?_; clear hS
   intro tm hS
   refine c_reg1 fun R hR => ?_
   refine pp2 hS rfl rfl rfl rfl ?_; clear hS
   intro tm hS
   refine o_lit (r := (rI .i64)) (l := [t1]) hS (.inl rfl) rfl Fl22 rfl rfl rfl (.cons rfl .nil) rfl rfl (ri_1 (rd_flat fun _ => rfl) ri_nil) rfl ?_; clear hS
   intro v4 tm H hS
   obtain ⟨l1, hx1, h1⟩ := bindS h1
   refine o_app (k1 := 1) (k2 := 0) (r := (rI .i64)) hS (.inl rfl) rfl rfl rfl rfl rfl (.inr (.inr rfl)) rfl Fe22_22 rfl hx1 ?_; clear hS
   intro v5 tm H hS
   refine pp1 hS rfl rfl ?_; clear hS
   intro tm hS
   refine o_nil (hR _ _ ?_)
   clear hR R
   refine cs2 hS rfl rfl rfl rfl ?_; clear hS
   intro tm hS
   obtain rfl := Option.some.inj h1
   refine ⟨_, rfl, ?_⟩
   refine Exists.intro v5 ?_; change S wm 54 _ _ _ _ Fr; exact hS.keep (k3 rfl rfl rfl) (fun hI => (hI.sub (sd (sc sn))))
  ·replace h1 := iteF hc h1
   refine wpC.exit ?_
   refine seqX ?_
   obtain rfl := Option.some.inj h1
   obtain rfl := hq1 _ rfl
   refine And.intro rfl (blk_eq ?_)
   replace h0 := joinN h0
   refine cr3 hS rfl rfl rfl rfl rfl rfl ?_; clear hS
   intro tm hS
   refine wpC.ret ?_
   obtain rfl := Option.some.inj h0
   refine Exists.intro _ (And.intro (rs_tmp hS rfl (rs_tmp hS rfl rs_nil)) ?_)
   have hI := hS.inv
   exact ⟨v3, rfl, (hI.sub (sc sn))⟩
 ·replace h0 := iteF hc h0
  refine wpC.skip ?_
  refine c_seqS ?_
  refine c_reg fun R hR => ?_
  refine pp2 hS rfl rfl rfl rfl ?_; clear hS
  intro tm hS
  refine o_ld1 (k := 0) hS (.inl rfl) rfl rfl rfl (.inl rfl) Fu4 rfl rfl ?_; clear hS
  intro tm hS
  refine pp1 hS rfl rfl ?_; clear hS
  intro tm hS
  obtain ⟨c2, hc1⟩ : ∃ x : Bool, x = (p1.V.Char && (decide ((p1.V.Data.length : Int) > 0))) := ⟨_, rfl⟩
  refine o_cutN 6 (J := fun tm H => S wm 54 tm H [(31, .bool c2), (1, .int .i64 n1), (2, .pointer (some ⟨b1, 0, none⟩)), (6, (.slice none 0 0))] [.box b1 [.bool p1.All, .bool p1.V.Char, v1, v2], .fz (rI .i64) v1 p1.V.Shape, .fz (rI .i64) v2 p1.V.Data] Fr) ?_ ?_
  ·rcases Bool.eq_false_or_eq_true p1.V.Char with hg1 | hg1
   ·refine o_pure hS (.inr ⟨_, _, _, _, rfl, rfl, rfl, hg1⟩) rfl rfl ?_; clear hS
    intro tm hS
    refine o_pure hS (.inr ⟨_, _, _, _, rfl, rfl, rfl, hg1⟩) rfl rfl ?_; clear hS
    intro tm hS
    refine o_ld1 (k := 0) hS (.inr ⟨_, _, _, _, rfl, rfl, rfl, hg1⟩) rfl rfl rfl (.inl rfl) Fu23 rfl rfl ?_; clear hS
    intro tm hS
    refine o_len (k := 2) (r := (rI .i64)) hS (.inr ⟨_, _, _, _, rfl, rfl, rfl, hg1⟩) rfl rfl rfl (.inl rfl) Fu23 rfl ?_; clear hS
    intro tm hS
    refine o_pure hS (.inr ⟨_, _, _, _, rfl, rfl, rfl, hg1⟩) rfl rfl ?_; clear hS
    intro tm hS
    refine o_pickT hS (.inl rfl) rfl rfl hg1 rfl ?_; clear hS
    intro tm hS
    have hc1 : c2 = (decide ((p1.V.Data.length : Int) > 0)) := hc1.trans (by rw [hg1]; first | rfl | simp)
    subst hc1
    exact o_nil (hS.keep (k4 rfl rfl rfl rfl) (fun hI => (hI.sub (sc (sc (sc sn))))))
   ·refine o_skip hS rfl rfl rfl hg1 ?_; clear hS
    intro tm hS
    refine o_skip hS rfl rfl rfl hg1 ?_; clear hS
    intro tm hS
    refine o_skip hS rfl rfl rfl hg1 ?_; clear hS
    intro tm hS
    refine o_skip hS rfl rfl rfl hg1 ?_; clear hS
    intro tm hS
    refine o_skip hS rfl rfl rfl hg1 ?_; clear hS
    intro tm hS
    refine o_pickF hS (.inl rfl) rfl rfl hg1 rfl ?_; clear hS
    intro tm hS
    have hc1 : c2 = false := hc1.trans (by rw [hg1]; first | rfl | simp)
    subst hc1
    exact o_nil (hS.keep (k4 rfl rfl rfl rfl) (fun hI => (hI.sub (sc (sc (sc sn))))))
  intro tm H hS
  subst hc1
  refine o_nil (hR _ _ ?_)
  clear hR R
  refine c_cond hS rfl (fun hc => ?_) (fun hc => ?_)
  ·replace h0 := iteT hc h0
   refine cr2 hS rfl rfl rfl rfl ?_; clear hS
   intro tm hS
   refine wpC.ret ?_
   obtain rfl := Option.some.inj h0
   replace hS := hS.nilOwn (rI .i64)
   refine Exists.intro _ (And.intro (rs_tmp hS rfl (rs_tmp hS rfl rs_nil)) ?_)
   have hI := hS.inv
   exact ⟨(.slice none 0 0), rfl, (hI.sub (sc sn))⟩
  ·replace h0 := iteF hc h0
   refine wpC.skip ?_
   refine c_seqS ?_
   refine c_reg fun R hR => ?_
   refine pp2 hS rfl rfl rfl rfl ?_; clear hS
   intro tm hS
   refine o_ld1 (k := 0) hS (.inl rfl) rfl rfl rfl (.inl rfl) Fu23 rfl rfl ?_; clear hS
   intro tm hS
   refine o_len (k := 2) (r := (rI .i64)) hS (.inl rfl) rfl rfl rfl (.inl rfl) Fu23 rfl ?_; clear hS
   intro tm hS
   refine pp1 hS rfl rfl ?_; clear hS
   intro tm hS
   refine o_nil (hR _ _ ?_)
   clear hR R
   obtain ⟨k2, hw2, h0⟩ := bindS h0
   refine wpC.block ?_
   replace hS := hS.nilOwn (rI .i64)
   refine c_loop (I := fun (s : (List Int) × Int) tm H => match (generalizing := false) s with | (out2, t2) => ∃ v6, S wm 54 tm H [(1, .int .i64 n1), (6, v6), (34, v2), (35, .int .i64 (p1.V.Data.length : Int)), (36, .int .i64 t2)] [.own (rI .i64) v6 out2, .fz (rI .i64) v2 p1.V.Data] Fr) hw2 (by refine Exists.intro (.slice none 0 0) ?_; change S wm 54 _ _ _ _ Fr; exact hS.keep (k5 rfl rfl rfl rfl rfl) (fun hI => (hI.sub (sc (sd (sd (sc sn))))))) ?_
   clear hS
   intro s2 tm H c3 hS h2 hq2
   obtain ⟨out2, t2⟩ := s2
   obtain ⟨v6, hS⟩ := hS
   change S wm 54 tm H [(1, .int .i64 n1), (6, v6), (34, v2), (35, .int .i64 (p1.V.Data.length : Int)), (36, .int .i64 t2)] [.own (rI .i64) v6 out2, .fz (rI .i64) v2 p1.V.Data] Fr at hS
   refine cr1 hS rfl rfl ?_; clear hS
   intro tm hS
   refine c_seqS ?_
   refine c_cond hS rfl (fun hc => ?_) (fun hc => ?_)
   ·replace h2 := iteT hc h2
    refine wpC.skip ?_
    refine c_seqS ?_
    refine wpC.block ?_
    refine c_reg fun R hR => ?_
    obtain ⟨y1, hx2, h2⟩ := bindS h2
    refine o_ixA (k := 1) (r := (rI .i64)) hS (.inl rfl) rfl rfl rfl rfl (.inl rfl) Fu23 Fs2 hx2 ?_; clear hS
    intro tm hS
    refine o_ldF (r := (rI .i64)) (k := 1) hS (.inl rfl) rfl rfl rfl (.inl rfl) hx2 Fu2 rfl (flat_I _) rfl ?_; clear hS
    intro tm hS
    refine pp1 hS rfl rfl ?_; clear hS
    intro tm hS
    refine o_nil (hR _ _ ?_)
    clear hR R
    refine c_seqS ?_
    refine c_reg fun R hR => ?_
    refine pp3 hS rfl rfl rfl rfl rfl rfl ?_; clear hS
    intro tm hS
    obtain ⟨c4, hc2⟩ : ∃ x : Bool, x = ((decide (y1 < 1)) || (decide (y1 > n1))) := ⟨_, rfl⟩
    refine o_cutN 4 (J := fun tm H => S wm 54 tm H [(46, .bool c4), (1, .int .i64 n1), (6, v6), (34, v2), (35, .int .i64 (p1.V.Data.length : Int)), (36, .int .i64 t2), (9, .int .i64 y1)] [.own (rI .i64) v6 out2, .fz (rI .i64) v2 p1.V.Data] Fr) ?_ ?_
    ·rcases Bool.eq_false_or_eq_true (decide (y1 < 1)) with hg2 | hg2
     ·refine o_skip hS rfl rfl rfl hg2 ?_; clear hS
      intro tm hS
      refine o_skip hS rfl rfl rfl hg2 ?_; clear hS
      intro tm hS
      refine o_skip hS rfl rfl rfl hg2 ?_; clear hS
      intro tm hS
      refine o_pickT hS (.inl rfl) rfl rfl hg2 rfl ?_; clear hS
      intro tm hS
      have hc2 : c4 = true := hc2.trans (by rw [hg2]; first | rfl | simp)
      subst hc2
      exact o_nil (hS.keep (k7 rfl rfl rfl rfl rfl rfl rfl) (fun hI => (hI.sub (sc (sc sn)))))
     ·refine o_pure hS (.inr ⟨_, _, _, _, rfl, rfl, rfl, hg2⟩) rfl rfl ?_; clear hS
      intro tm hS
      refine o_pure hS (.inr ⟨_, _, _, _, rfl, rfl, rfl, hg2⟩) rfl rfl ?_; clear hS
      intro tm hS
      refine o_pure hS (.inr ⟨_, _, _, _, rfl, rfl, rfl, hg2⟩) rfl rfl ?_; clear hS
      intro tm hS
      refine o_pickF hS (.inl rfl) rfl rfl hg2 rfl ?_; clear hS
      intro tm hS
      have hc2 : c4 = (decide (y1 > n1)) := hc2.trans (by rw [hg2]; first | rfl | simp)
      subst hc2
      exact o_nil (hS.keep (k7 rfl rfl rfl rfl rfl rfl rfl) (fun hI => (hI.sub (sc (sc sn)))))
    intro tm H hS
    subst hc2
    refine o_nil (hR _ _ ?_)
    clear hR R
    refine c_cond hS rfl (fun hc => ?_) (fun hc => ?_)
    ·replace h2 := iteT hc h2
     refine cr2 hS rfl rfl rfl rfl ?_; clear hS
     intro tm hS
     refine wpC.ret ?_
     obtain rfl := Option.some.inj h2
     obtain rfl := hq2 _ rfl
     refine And.intro rfl ?_
     obtain rfl := leave h0
     replace hS := hS.nilOwn (rI .i64)
     refine Exists.intro _ (And.intro (rs_tmp hS rfl (rs_tmp hS rfl rs_nil)) ?_)
     have hI := hS.inv
     exact ⟨(.slice none 0 0), rfl, (hI.sub (sc sn))⟩
    ·replace h2 := iteF hc h2
     refine wpC.skip ?_
     refine c_reg1 fun R hR => ?_
     refine pp3 hS rfl rfl rfl rfl rfl rfl ?_; clear hS
     intro tm hS
     refine o_lit (r := (rI .i64)) (l := [(IntKind.i64.wrap (y1 - 1))]) hS (.inl rfl) rfl Fl22 rfl rfl rfl (.cons rfl .nil) rfl rfl (ri_1 (rd_flat fun _ => rfl) ri_nil) rfl ?_; clear hS
     intro v7 tm H hS
     obtain ⟨l2, hx3, h2⟩ := bindS h2
     refine o_app (k1 := 1) (k2 := 0) (r := (rI .i64)) hS (.inl rfl) rfl rfl rfl rfl rfl (.inr (.inr rfl)) rfl Fe22_22 rfl hx3 ?_; clear hS
     intro v8 tm H hS
     refine pp1 hS rfl rfl ?_; clear hS
     intro tm hS
     refine o_nil (hR _ _ ?_)
     clear hR R
     refine cs2 hS rfl rfl rfl rfl ?_; clear hS
     intro tm hS
     obtain rfl := Option.some.inj h2
     refine ⟨_, rfl, ?_⟩
     refine Exists.intro v8 ?_; change S wm 54 _ _ _ _ Fr; exact hS.keep (k5 rfl rfl rfl rfl rfl) (fun hI => (hI.sub (sd (sc (sc sn)))))
   ·replace h2 := iteF hc h2
    refine wpC.exit ?_
    refine seqX ?_
    obtain rfl := Option.some.inj h2
    obtain rfl := hq2 _ rfl
    refine And.intro rfl (blk_eq ?_)
    replace h0 := joinN h0
    refine cr3 hS rfl rfl rfl rfl rfl rfl ?_; clear hS
    intro tm hS
    refine wpC.ret ?_
    obtain rfl := Option.some.inj h0
    refine Exists.intro _ (And.intro (rs_tmp hS rfl (rs_tmp hS rfl rs_nil)) ?_)
    have hI := hS.inv
    exact ⟨v6, rfl, (hI.sub (sc sn))⟩
theorem wk51 {wm : Nat} {H : AHeap} {Fr : List Ent}  (v1 : Val) (places1 : (List Am.Place))  (v2 : Value) (v3 : Value) (v4 : Value) (hI : Kn wm H [.fz (rI .i64) v2 v1.Shape, .fz (rI .i64) v3 v1.Data, .fz rPlace v4 places1] Fr) {r : Am.Found × Int} (h0 : M.index_finds v1 places1 = some r) :
  wpF Try.prog ora wm 51 [.agg #[.bool v1.Char, v2, v3], v4] H (fun res H => ∃ v20 v21, res = .tuple #[.agg #[v20, v21], .int .i64 r.2] ∧ Kn wm H [.own (rI .i64) v20 r.1.shape, .own (rI .i64) v21 r.1.offsets] Fr) := by
 unfold M.index_finds at h0
 refine f_enter (n := 110) Try.func51 rfl (by simp) hI rfl rfl rfl fun tm hS => ?_
 clear hI
 refine c_reg fun R hR => ?_
 refine o_box hS (.inl rfl) rfl rfl rfl (all_cons rfl (all_cons (hS.one (k := 0) rfl (.inl rfl)) (all_cons (hS.one (k := 1) rfl (.inl rfl)) all_nil))) ?_; clear hS
 intro b1 tm H hS
 refine o_alloc hS (.inl rfl) rfl Fz94 (by decide) ?_; clear hS
 intro b2 tm H hS
 refine pp1 hS rfl rfl ?_; clear hS
 intro tm hS
 refine o_nil (hR _ _ ?_)
 clear hR R
 refine c_reg fun R hR => ?_
 refine o_ldA (k := 1) hS (.inl rfl) rfl rfl rfl (.inl rfl) Fu25 rfl Fs25 rfl ?_; clear hS
 intro tm hS
 refine pp1 hS rfl rfl ?_; clear hS
 intro tm hS
 obtain ⟨⟨r1, r2⟩, hx1, h0⟩ := bindS h0
 refine o_call hS (.inl rfl) rfl (fun wm' hw1 hw2 => wk78  v1 places1  v2 v3 v4 ((((hS.sel hw2).ad 4 rfl).ad 3 rfl).ad 2 rfl) hx1) (fun wm' res H hw' hp => ?_)
 obtain ⟨v5, hres, hI⟩ := hp
 replace hres := hres.symm; subst hres
 replace hS : S wm 110 _ H ((25, .tuple #[v5, .int .i64 r2]) :: _) ([.own (rI .i64) v5 r1] ++ _) Fr := hS.after rfl hw' hI
 clear hI hw'
 refine pp5 hS rfl rfl rfl rfl rfl rfl rfl rfl rfl rfl ?_; clear hS
 intro tm hS
 refine o_nil (hR _ _ ?_)
 clear hR R
 refine c_seqS ?_
 refine cr2 hS rfl rfl rfl rfl ?_; clear hS
 intro tm hS
 refine c_cond hS rfl (fun hc => ?_) (fun hc => ?_)
 ·replace h0 := iteT hc h0
  refine c_reg fun R hR => ?_
  refine o_build hS (.inl rfl) rfl Fb94 rfl .nil rfl ?_; clear hS
  intro tm hS
  refine pp1 hS rfl rfl ?_; clear hS
  intro tm hS
  refine o_st (k := 1) hS (.inl rfl) rfl rfl rfl Fs94 rfl rfl (all_cons rfl (all_cons rfl all_nil)) rfl ?_; clear hS; try clear H
  intro H hS
  refine pp1 hS rfl rfl ?_; clear hS
  intro tm hS
  refine o_nil (hR _ _ ?_)
  clear hR R
  refine wpC.ret ?_
  obtain rfl := Option.some.inj h0
  replace hS := hS.nilOwn (rI .i64)
  replace hS := hS.nilOwn (rI .i64)
  refine Exists.intro _ (And.intro (rs_cellA (k := 3) hS rfl rfl (.inl rfl) Fu94 rfl Fs94 rfl (rs_tmp hS rfl rs_nil)) ?_)
  have hI := hS.inv
  exact ⟨(.slice none 0 0), (.slice none 0 0), rfl, (hI.sub (sc (sc sn)))⟩
 ·replace h0 := iteF hc h0
  refine wpC.skip ?_
  refine cr1 hS rfl rfl ?_; clear hS
  intro tm hS
  refine c_seqS ?_
  refine c_reg fun R hR => ?_
  refine pp1 hS rfl rfl ?_; clear hS
  intro tm hS
  refine o_len (k := 5) (r := rPlace) hS (.inl rfl) rfl rfl rfl (.inl rfl) Fu51 rfl ?_; clear hS
  intro tm hS
  refine pp1 hS rfl rfl ?_; clear hS
  intro tm hS
  refine o_nil (hR _ _ ?_)
  clear hR R
  obtain ⟨k1, hw1, h0⟩ := bindS h0
  refine wpC.block ?_
  replace hS := hS.nilOwn (rL (rI .i64))
  refine c_loop (I := fun (s : (List (List Int)) × Int) tm H => match (generalizing := false) s with | (all1, t1) => ∃ v6, S wm 110 tm H [(2, .pointer (some ⟨b1, 0, none⟩)), (4, .pointer (some ⟨b2, 0, none⟩)), (6, v5), (8, v6), (32, v4), (33, .int .i64 (places1.length : Int)), (34, .int .i64 t1)] [.box b1 [.bool v1.Char, v2, v3], .box b2 [(.slice none 0 0), (.slice none 0 0)], .own (rL (rI .i64)) v6 all1, .fz (rI .i64) v2 v1.Shape, .fz (rI .i64) v3 v1.Data, .own (rI .i64) v5 r1, .fz rPlace v4 places1] Fr) hw1 (by refine Exists.intro (.slice none 0 0) ?_; change S wm 110 _ _ _ _ Fr; exact hS.keep (k7 rfl rfl rfl rfl rfl rfl rfl) (fun hI => ((((((((hI.pull 6 rfl).pull 2 rfl).pull 6 rfl).pull 6 rfl).pull 4 rfl).pull 5 rfl).pull 6 rfl).take 7))) ?_
  clear hS
  intro s1 tm H c1 hS h1 hq1
  obtain ⟨all1, t1⟩ := s1
  obtain ⟨v6, hS⟩ := hS
  change S wm 110 tm H [(2, .pointer (some ⟨b1, 0, none⟩)), (4, .pointer (some ⟨b2, 0, none⟩)), (6, v5), (8, v6), (32, v4), (33, .int .i64 (places1.length : Int)), (34, .int .i64 t1)] [.box b1 [.bool v1.Char, v2, v3], .box b2 [(.slice none 0 0), (.slice none 0 0)], .own (rL (rI .i64)) v6 all1, .fz (rI .i64) v2 v1.Shape, .fz (rI .i64) v3 v1.Data, .own (rI .i64) v5 r1, .fz rPlace v4 places1] Fr at hS
  refine cr1 hS rfl rfl ?_; clear hS
  intro tm hS
  refine c_seqS ?_
  refine c_cond hS rfl (fun hc => ?_) (fun hc => ?_)
  ·replace h1 := iteT hc h1
   refine wpC.skip ?_
   refine c_seqS ?_
   refine wpC.block ?_
   refine c_reg fun R hR => ?_
   refine pp1 hS rfl rfl ?_; clear hS
   intro tm hS
   obtain ⟨y1, hx2, h1⟩ := bindS h1
   refine o_ixA (k := 6) (r := rPlace) hS (.inl rfl) rfl rfl rfl rfl (.inl rfl) Fu51 Fs53 hx2 ?_; clear hS
   intro tm hS
   refine o_ldPlace (k := 6) hS (.inl rfl) rfl rfl rfl (.inl rfl) hx2 Fu53 rfl Fs53 rfl ?_; clear hS
   intro v7 v8 tm hS
   refine o_alloc hS (.inl rfl) rfl Fz53 (by decide) ?_; clear hS
   intro b3 tm H hS
   refine pp1 hS rfl rfl ?_; clear hS
   intro tm hS
   refine o_st (k := 0) hS (.inl rfl) rfl rfl rfl Fs53 rfl rfl (all_cons rfl (all_cons rfl (all_cons (hS.one (k := 1) rfl (.inl rfl)) (all_cons (hS.one (k := 2) rfl (.inl rfl)) all_nil)))) rfl ?_; clear hS; try clear H
   intro H hS
   refine o_nil (hR _ _ ?_)
   clear hR R
   refine c_reg fun R hR => ?_
   refine o_ldA (k := 0) hS (.inl rfl) rfl rfl rfl (.inl rfl) Fu53 rfl Fs53 rfl ?_; clear hS
   intro tm hS
   refine pp1 hS rfl rfl ?_; clear hS
   intro tm hS
   refine o_ld1 (k := 3) hS (.inl rfl) rfl rfl rfl (.inl rfl) Fu22 rfl rfl ?_; clear hS
   intro tm hS
   refine pp1 hS rfl rfl ?_; clear hS
   intro tm hS
   obtain ⟨y2, hx3, h1⟩ := bindS h1
   refine o_ixA (k := 6) (r := (rI .i64)) hS (.inl rfl) rfl rfl rfl rfl (.inl rfl) Fu22 Fs3 hx3 ?_; clear hS
   intro tm hS
   refine o_ldF (r := (rI .i64)) (k := 6) hS (.inl rfl) rfl rfl rfl (.inl rfl) hx3 Fu3 rfl (flat_I _) rfl ?_; clear hS
   intro tm hS
   obtain ⟨⟨r3, r4⟩, hx4, h1⟩ := bindS h1
   refine o_call hS (.inl rfl) rfl (fun wm' hw1 hw2 => wk79  y1 y2  v7 v8 (((hS.sel hw2).ad 2 rfl).ad 1 rfl) hx4) (fun wm' res H hw' hp => ?_)
   obtain ⟨v9, hres, hI⟩ := hp
   replace hres := hres.symm; subst hres
   replace hS : S wm 110 _ H ((46, .tuple #[v9, .int .i64 r4]) :: _) ([.own (rI .i64) v9 r3] ++ _) Fr := hS.after rfl hw' hI
   clear hI hw'
   refine pp5 hS rfl rfl rfl rfl rfl rfl rfl rfl rfl rfl ?_; clear hS
   intro tm hS
   refine o_nil (hR _ _ ?_)
   clear hR R
   refine c_seqS ?_
   refine cr2 hS rfl rfl rfl rfl ?_; clear hS
   intro tm hS
   refine c_cond hS rfl (fun hc => ?_) (fun hc => ?_)
   ·replace h1 := iteT hc h1
    refine c_reg fun R hR => ?_
    refine o_build hS (.inl rfl) rfl Fb94 rfl .nil rfl ?_; clear hS
    intro tm hS
    refine pp1 hS rfl rfl ?_; clear hS
    intro tm hS
    refine o_st (k := 5) hS (.inl rfl) rfl rfl rfl Fs94 rfl rfl (all_cons rfl (all_cons rfl all_nil)) rfl ?_; clear hS; try clear H
    intro H hS
    refine pp1 hS rfl rfl ?_; clear hS
    intro tm hS
    refine o_nil (hR _ _ ?_)
    clear hR R
    refine wpC.ret ?_
    obtain rfl := Option.some.inj h1
    obtain rfl := hq1 _ rfl
    refine And.intro rfl ?_
    obtain rfl := leave h0
    replace hS := hS.nilOwn (rI .i64)
    replace hS := hS.nilOwn (rI .i64)
    refine Exists.intro _ (And.intro (rs_cellA (k := 7) hS rfl rfl (.inl rfl) Fu94 rfl Fs94 rfl (rs_tmp hS rfl rs_nil)) ?_)
    have hI := hS.inv
    exact ⟨(.slice none 0 0), (.slice none 0 0), rfl, (hI.sub (sc (sc sn)))⟩
   ·replace h1 := iteF hc h1
    refine wpC.skip ?_
    refine c_reg1 fun R hR => ?_
    refine pp2 hS rfl rfl rfl rfl ?_; clear hS
    intro tm hS
    replace hS := hS.frz (k := 0) rfl
    refine o_lit (r := (rL (rI .i64))) (l := [r3]) hS (.inl rfl) rfl Fl113 rfl rfl rfl (.cons (cells_one (hS.one (k := 0) rfl (.inl rfl))) .nil) rfl rfl (ri_1 (rd_S ⟨0, rfl⟩) ri_nil) rfl ?_; clear hS
    intro v10 tm H hS
    obtain ⟨l1, hx5, h1⟩ := bindS h1
    refine o_app (k1 := 7) (k2 := 0) (r := (rL (rI .i64))) hS (.inl rfl) rfl rfl rfl rfl rfl (.inr (.inr rfl)) rfl Fe113_113 rfl hx5 ?_; clear hS
    intro v11 tm H hS
    refine pp1 hS rfl rfl ?_; clear hS
    intro tm hS
    refine o_nil (hR _ _ ?_)
    clear hR R
    refine cs2 hS rfl rfl rfl rfl ?_; clear hS
    intro tm hS
    obtain rfl := Option.some.inj h1
    refine ⟨_, rfl, ?_⟩
    refine Exists.intro v11 ?_; change S wm 110 _ _ _ _ Fr; exact hS.keep (k7 rfl rfl rfl rfl rfl rfl rfl) (fun hI => (hI.sub (sd (sd (sd (sd (sd (sc (sc (sc (sc (sc (sc (sc sn))))))))))))))
  ·replace h1 := iteF hc h1
   refine wpC.exit ?_
   refine seqX ?_
   obtain rfl := Option.some.inj h1
   obtain rfl := hq1 _ rfl
   refine And.intro rfl (blk_eq ?_)
   replace h0 := joinN h0
   refine c_reg fun R hR => ?_
   refine pp1 hS rfl rfl ?_; clear hS
   intro tm hS
   obtain ⟨⟨r5, r6⟩, hx6, h0⟩ := bindS h0
   refine o_call (Pc := fun _ res H => res = .tuple #[.int .i64 r5, .int .i64 r6] ∧ Kn wm H ([.box b1 [.bool v1.Char, v2, v3], .box b2 [(.slice none 0 0), (.slice none 0 0)], .own (rL (rI .i64)) v6 all1, .fz (rI .i64) v2 v1.Shape, .fz (rI .i64) v3 v1.Data, .own (rI .i64) v5 r1, .fz rPlace v4 places1]) Fr) hS (.inl rfl) rfl (fun wm' hw1 hw2 => by
    obtain ⟨F2, kk_1, kk_2⟩ := hS.inv.lend (La := [.fz (rI .i64) v5 r1]) (List.forall_mem_cons.mpr ⟨(.inr ⟨_, _, _, _, rfl, .inl (List.mem_of_getElem? (i := 5) rfl)⟩), (fun _ h => by cases h)⟩) hw1 hw2
    exact (wk35  r1  v5 kk_1 hx6).mono fun res H2 ⟨qq_1, qq_2⟩ => ⟨qq_1, kk_2 _ qq_2⟩) (fun wm' res H hw' hp => ?_)
   obtain ⟨hres, hI⟩ := hp
   replace hres := hres.symm; subst hres
   replace hS : S wm 110 _ H ((60, .tuple #[.int .i64 r5, .int .i64 r6]) :: _) ([.box b1 [.bool v1.Char, v2, v3], .box b2 [(.slice none 0 0), (.slice none 0 0)], .own (rL (rI .i64)) v6 all1, .fz (rI .i64) v2 v1.Shape, .fz (rI .i64) v3 v1.Data, .own (rI .i64) v5 r1, .fz rPlace v4 places1]) Fr := (hS.put rfl _).withK hI
   clear hI hw'
   refine pp5 hS rfl rfl rfl rfl rfl rfl rfl rfl rfl rfl ?_; clear hS
   intro tm hS
   refine o_nil (hR _ _ ?_)
   clear hR R
   refine c_seqS ?_
   refine cr2 hS rfl rfl rfl rfl ?_; clear hS
   intro tm hS
   refine c_cond hS rfl (fun hc => ?_) (fun hc => ?_)
   ·replace h0 := iteT hc h0
    refine c_reg fun R hR => ?_
    refine o_build hS (.inl rfl) rfl Fb94 rfl .nil rfl ?_; clear hS
    intro tm hS
    refine o_st (k := 1) hS (.inl rfl) rfl rfl rfl Fs94 rfl rfl (all_cons rfl (all_cons rfl all_nil)) rfl ?_; clear hS; try clear H
    intro H hS
    refine pp1 hS rfl rfl ?_; clear hS
    intro tm hS
    refine o_nil (hR _ _ ?_)
    clear hR R
    refine wpC.ret ?_
    obtain rfl := Option.some.inj h0
    replace hS := hS.nilOwn (rI .i64)
    replace hS := hS.nilOwn (rI .i64)
    refine Exists.intro _ (And.intro (rs_cellA (k := 3) hS rfl rfl (.inl rfl) Fu94 rfl Fs94 rfl (rs_tmp hS rfl rs_nil)) ?_)
    have hI := hS.inv
    exact ⟨(.slice none 0 0), (.slice none 0 0), rfl, (hI.sub (sc (sc sn)))⟩
   ·replace h0 := iteF hc h0
    refine wpC.skip ?_
    refine c_reg fun R hR => ?_
    refine pp1 hS rfl rfl ?_; clear hS
    intro tm hS
    refine o_lit (r := (rI .i64)) (l := [0]) hS (.inl rfl) rfl Fl22 rfl rfl rfl (.cons rfl .nil) rfl rfl (ri_1 (rd_flat fun _ => rfl) ri_nil) rfl ?_; clear hS
    intro v12 tm H hS
    refine o_build hS (.inl rfl) rfl Fb94 rfl (.cons (cells_one (hS.one (k := 6) rfl (.inr (.inl rfl)))) (.cons (cells_one (hS.one (k := 0) rfl (.inr (.inr rfl)))) .nil)) rfl ?_; clear hS
    intro tm hS
    refine o_alloc hS (.inl rfl) rfl Fz94 (by decide) ?_; clear hS
    intro b4 tm H hS
    refine o_st (k := 0) hS (.inl rfl) rfl rfl rfl Fs94 rfl rfl (all_cons (hS.one (k := 7) rfl (.inr (.inl rfl))) (all_cons (hS.one (k := 1) rfl (.inr (.inr rfl))) all_nil)) rfl ?_; clear hS; try clear H
    intro H hS
    refine o_nil (hR _ _ ?_)
    clear hR R
    obtain ⟨offsets1, h20, h0⟩ := bindS h0
    refine c_seqJ (J := fun tm H => (match (generalizing := false) offsets1 with | offsets1 => ∃ v13, S wm 110 tm H [(2, .pointer (some ⟨b1, 0, none⟩)), (4, .pointer (some ⟨b2, 0, none⟩)), (8, v6), (14, .pointer (some ⟨b4, 0, none⟩))] [.box b1 [.bool v1.Char, v2, v3], .box b2 [(.slice none 0 0), (.slice none 0 0)], .box b4 [v5, v13], .own (rI .i64) v13 offsets1, .fz (rI .i64) v2 v1.Shape, .fz (rI .i64) v3 v1.Data, .own (rL (rI .i64)) v6 all1, .own (rI .i64) v5 r1] Fr)) ?_ ?_
    ·refine cr2 hS rfl rfl rfl rfl ?_; clear hS
     intro tm hS
     refine c_cond hS rfl (fun hc => ?_) (fun hc => ?_)
     ·replace h20 := iteT hc h20
      refine c_reg1 fun R hR => ?_
      refine pp1 hS rfl rfl ?_; clear hS
      intro tm hS
      refine o_st (k := 0) hS (.inl rfl) rfl rfl rfl Fs22 rfl rfl (all_cons rfl all_nil) rfl ?_; clear hS; try clear H
      intro H hS
      refine o_nil (hR _ _ ?_)
      clear hR R
      obtain rfl := Option.some.inj h20
      replace hS := hS.nilOwn (rI .i64)
      refine Exists.intro (.slice none 0 0) ?_; change S wm 110 _ _ _ _ Fr; exact hS.keep (k4 rfl rfl rfl rfl) (fun hI => (hI.pick [3, 4, 1, 0, 6, 7, 5, 8] rfl))
     ·replace h20 := iteF hc h20
      refine wpC.skip ?_
      obtain rfl := Option.some.inj h20
      replace hS := hS.litOwn (k := 1) rfl
      refine Exists.intro v12 ?_; change S wm 110 _ _ _ _ Fr; exact hS.keep (k4 rfl rfl rfl rfl) (fun hI => (hI.pick [2, 3, 0, 1, 5, 6, 4, 7] rfl))
    intro tm H hS
    obtain ⟨v13, hS⟩ := hS
    change S wm 110 tm H [(2, .pointer (some ⟨b1, 0, none⟩)), (4, .pointer (some ⟨b2, 0, none⟩)), (8, v6), (14, .pointer (some ⟨b4, 0, none⟩))] [.box b1 [.bool v1.Char, v2, v3], .box b2 [(.slice none 0 0), (.slice none 0 0)], .box b4 [v5, v13], .own (rI .i64) v13 offsets1, .fz (rI .i64) v2 v1.Shape, .fz (rI .i64) v3 v1.Data, .own (rL (rI .i64)) v6 all1, .own (rI .i64) v5 r1] Fr at hS
    refine c_seqS ?_
    refine c_reg fun R hR => ?_
    refine pp1 hS rfl rfl ?_; clear hS
    intro tm hS
    refine o_len (k := 6) (r := (rL (rI .i64))) hS (.inl rfl) rfl rfl rfl (.inr (.inl rfl)) Fu113 rfl ?_; clear hS
    intro tm hS
    refine pp1 hS rfl rfl ?_; clear hS
    intro tm hS
    refine o_nil (hR _ _ ?_)
    clear hR R
    obtain ⟨k2, hw2, h0⟩ := bindS h0
    refine wpC.block ?_
    refine c_loop (I := fun (s : Int × (List Int)) tm H => match (generalizing := false) s with | (t2, offsets2) => ∃ v14, S wm 110 tm H [(2, .pointer (some ⟨b1, 0, none⟩)), (4, .pointer (some ⟨b2, 0, none⟩)), (14, .pointer (some ⟨b4, 0, none⟩)), (72, v6), (73, .int .i64 (all1.length : Int)), (74, .int .i64 t2)] [.box b1 [.bool v1.Char, v2, v3], .box b2 [(.slice none 0 0), (.slice none 0 0)], .box b4 [v5, v14], .own (rI .i64) v14 offsets2, .fz (rI .i64) v2 v1.Shape, .fz (rI .i64) v3 v1.Data, .own (rI .i64) v5 r1, .own (rL (rI .i64)) v6 all1] Fr) hw2 (by refine Exists.intro v13 ?_; change S wm 110 _ _ _ _ Fr; exact hS.keep (k6 rfl rfl rfl rfl rfl rfl) (fun hI => (hI.pick [0, 1, 2, 3, 4, 5, 7, 6] rfl))) ?_
    clear hS
    intro s2 tm H c2 hS h29 hq29
    obtain ⟨t2, offsets2⟩ := s2
    obtain ⟨v14, hS⟩ := hS
    change S wm 110 tm H [(2, .pointer (some ⟨b1, 0, none⟩)), (4, .pointer (some ⟨b2, 0, none⟩)), (14, .pointer (some ⟨b4, 0, none⟩)), (72, v6), (73, .int .i64 (all1.length : Int)), (74, .int .i64 t2)] [.box b1 [.bool v1.Char, v2, v3], .box b2 [(.slice none 0 0), (.slice none 0 0)], .box b4 [v5, v14], .own (rI .i64) v14 offsets2, .fz (rI .i64) v2 v1.Shape, .fz (rI .i64) v3 v1.Data, .own (rI .i64) v5 r1, .own (rL (rI .i64)) v6 all1] Fr at hS
    refine cr1 hS rfl rfl ?_; clear hS
    intro tm hS
    refine c_seqS ?_
    refine c_cond hS rfl (fun hc => ?_) (fun hc => ?_)
    ·replace h29 := iteT hc h29
     refine wpC.skip ?_
     refine c_seqS ?_
     refine wpC.block ?_
     refine c_reg fun R hR => ?_
     refine pp1 hS rfl rfl ?_; clear hS
     intro tm hS
     obtain ⟨y3, hx7, h29⟩ := bindS h29
     refine o_ixA (k := 7) (r := (rL (rI .i64))) hS (.inl rfl) rfl rfl rfl rfl (.inr (.inl rfl)) Fu113 Fs22 hx7 ?_; clear hS
     intro tm hS
     refine o_ldS (k := 7) hS (.inl rfl) rfl rfl rfl (.inr (.inl rfl)) hx7 Fu22 rfl ?_; clear hS
     intro v15 tm hS
     refine pp2 hS rfl rfl rfl rfl ?_; clear hS
     intro tm hS
     refine o_nil (hR _ _ ?_)
     clear hR R
     refine cr1 hS rfl rfl ?_; clear hS
     intro tm hS
     refine c_seqS ?_
     refine c_reg fun R hR => ?_
     refine pp1 hS rfl rfl ?_; clear hS
     intro tm hS
     refine o_ld1 (k := 3) hS (.inl rfl) rfl rfl rfl (.inl rfl) Fu22 rfl rfl ?_; clear hS
     intro tm hS
     refine o_len (k := 4) (r := (rI .i64)) hS (.inl rfl) rfl rfl rfl (.inr (.inl rfl)) Fu22 rfl ?_; clear hS
     intro tm hS
     refine pp1 hS rfl rfl ?_; clear hS
     intro tm hS
     refine o_nil (hR _ _ ?_)
     clear hR R
     obtain ⟨k3, hw3, h29⟩ := bindS h29
     refine wpC.block ?_
     replace hS := hS.nilOwn (rI .i64)
     refine c_loop (I := fun (s : (List Int) × Int) tm H => match (generalizing := false) s with | (next1, t3) => ∃ v16, S wm 110 tm H [(2, .pointer (some ⟨b1, 0, none⟩)), (4, .pointer (some ⟨b2, 0, none⟩)), (14, .pointer (some ⟨b4, 0, none⟩)), (15, .int .i64 t2), (16, v15), (17, v16), (72, v6), (73, .int .i64 (all1.length : Int)), (74, .int .i64 t2), (80, v14), (81, .int .i64 (offsets2.length : Int)), (82, .int .i64 t3)] [.box b1 [.bool v1.Char, v2, v3], .box b2 [(.slice none 0 0), (.slice none 0 0)], .box b4 [v5, v14], .own (rI .i64) v16 next1, .fz (rI .i64) v2 v1.Shape, .fz (rI .i64) v3 v1.Data, .own (rI .i64) v5 r1, .own (rI .i64) v14 offsets2, .fz (rI .i64) v15 y3, .own (rL (rI .i64)) v6 all1] Fr) hw3 (by refine Exists.intro (.slice none 0 0) ?_; change S wm 110 _ _ _ _ Fr; exact hS.keep (k12 rfl rfl rfl rfl rfl rfl rfl rfl rfl rfl rfl rfl) (fun hI => (hI.pick [2, 3, 4, 0, 6, 7, 8, 5, 1, 9] rfl))) ?_
     clear hS
     intro s3 tm H c3 hS h35 hq35
     obtain ⟨next1, t3⟩ := s3
     obtain ⟨v16, hS⟩ := hS
     change S wm 110 tm H [(2, .pointer (some ⟨b1, 0, none⟩)), (4, .pointer (some ⟨b2, 0, none⟩)), (14, .pointer (some ⟨b4, 0, none⟩)), (15, .int .i64 t2), (16, v15), (17, v16), (72, v6), (73, .int .i64 (all1.length : Int)), (74, .int .i64 t2), (80, v14), (81, .int .i64 (offsets2.length : Int)), (82, .int .i64 t3)] [.box b1 [.bool v1.Char, v2, v3], .box b2 [(.slice none 0 0), (.slice none 0 0)], .box b4 [v5, v14], .own (rI .i64) v16 next1, .fz (rI .i64) v2 v1.Shape, .fz (rI .i64) v3 v1.Data, .own (rI .i64) v5 r1, .own (rI .i64) v14 offsets2, .fz (rI .i64) v15 y3, .own (rL (rI .i64)) v6 all1] Fr at hS
     refine cr1 hS rfl rfl ?_; clear hS
     intro tm hS
     refine c_seqS ?_
     refine c_cond hS rfl (fun hc => ?_) (fun hc => ?_)
     ·replace h35 := iteT hc h35
      refine wpC.skip ?_
      refine c_seqS ?_
      refine wpC.block ?_
      refine c_reg fun R hR => ?_
      obtain ⟨y4, hx8, h35⟩ := bindS h35
      refine o_ixA (k := 7) (r := (rI .i64)) hS (.inl rfl) rfl rfl rfl rfl (.inr (.inl rfl)) Fu22 Fs3 hx8 ?_; clear hS
      intro tm hS
      refine o_ldF (r := (rI .i64)) (k := 7) hS (.inl rfl) rfl rfl rfl (.inr (.inl rfl)) hx8 Fu3 rfl (flat_I _) rfl ?_; clear hS
      intro tm hS
      refine pp1 hS rfl rfl ?_; clear hS
      intro tm hS
      refine o_nil (hR _ _ ?_)
      clear hR R
      refine c_reg fun R hR => ?_
      refine pp1 hS rfl rfl ?_; clear hS
      intro tm hS
      refine o_len (k := 8) (r := (rI .i64)) hS (.inl rfl) rfl rfl rfl (.inl rfl) Fu22 rfl ?_; clear hS
      intro tm hS
      refine pp1 hS rfl rfl ?_; clear hS
      intro tm hS
      refine o_nil (hR _ _ ?_)
      clear hR R
      obtain ⟨k4, hw4, h35⟩ := bindS h35
      refine wpC.block ?_
      refine c_loop (I := fun (s : (List Int) × Int) tm H => match (generalizing := false) s with | (next2, t4) => ∃ v17, S wm 110 tm H [(2, .pointer (some ⟨b1, 0, none⟩)), (4, .pointer (some ⟨b2, 0, none⟩)), (14, .pointer (some ⟨b4, 0, none⟩)), (15, .int .i64 t2), (16, v15), (17, v17), (19, .int .i64 y4), (72, v6), (73, .int .i64 (all1.length : Int)), (74, .int .i64 t2), (80, v14), (81, .int .i64 (offsets2.length : Int)), (82, .int .i64 t3), (86, v15), (87, .int .i64 (y3.length : Int)), (88, .int .i64 t4)] [.box b1 [.bool v1.Char, v2, v3], .box b2 [(.slice none 0 0), (.slice none 0 0)], .box b4 [v5, v14], .own (rI .i64) v17 next2, .fz (rI .i64) v2 v1.Shape, .fz (rI .i64) v3 v1.Data, .own (rI .i64) v5 r1, .own (rI .i64) v14 offsets2, .fz (rI .i64) v15 y3, .own (rL (rI .i64)) v6 all1] Fr) hw4 (by refine Exists.intro v16 ?_; change S wm 110 _ _ _ _ Fr; exact hS.keep (ka_cons rfl (ka_cons rfl (ka_cons rfl (ka_cons rfl (ka_cons rfl (ka_cons rfl (ka_cons rfl (ka_cons rfl (ka_cons rfl (ka_cons rfl (ka_cons rfl (ka_cons rfl (ka_cons rfl (ka_cons rfl (ka_cons rfl (ka_cons rfl ka_nil)))))))))))))))) (fun hI => (hI.sub (sc (sc (sc (sc (sc (sc (sc (sc (sc (sc sn))))))))))))) ?_
      clear hS
      intro s4 tm H c4 hS h37 hq37
      obtain ⟨next2, t4⟩ := s4
      obtain ⟨v17, hS⟩ := hS
      change S wm 110 tm H [(2, .pointer (some ⟨b1, 0, none⟩)), (4, .pointer (some ⟨b2, 0, none⟩)), (14, .pointer (some ⟨b4, 0, none⟩)), (15, .int .i64 t2), (16, v15), (17, v17), (19, .int .i64 y4), (72, v6), (73, .int .i64 (all1.length : Int)), (74, .int .i64 t2), (80, v14), (81, .int .i64 (offsets2.length : Int)), (82, .int .i64 t3), (86, v15), (87, .int .i64 (y3.length : Int)), (88, .int .i64 t4)] [.box b1 [.bool v1.Char, v2, v3], .box b2 [(.slice none 0 0), (.slice none 0 0)], .box b4 [v5, v14], .own (rI .i64) v17 next2, .fz (rI .i64) v2 v1.Shape, .fz (rI .i64) v3 v1.Data, .own (rI .i64) v5 r1, .own (rI .i64) v14 offsets2, .fz (rI .i64) v15 y3, .own (rL (rI .i64)) v6 all1] Fr at hS
      refine cr1 hS rfl rfl ?_; clear hS
      intro tm hS
      refine c_seqS ?_
      refine c_cond hS rfl (fun hc => ?_) (fun hc => ?_)
      ·replace h37 := iteT hc h37
       refine wpC.skip ?_
       refine c_seqS ?_
       refine wpC.block ?_
       refine c_reg fun R hR => ?_
       obtain ⟨y5, hx9, h37⟩ := bindS h37
       refine o_ixA (k := 8) (r := (rI .i64)) hS (.inl rfl) rfl rfl rfl rfl (.inl rfl) Fu22 Fs3 hx9 ?_; clear hS
       intro tm hS
       refine o_ldF (r := (rI .i64)) (k := 8) hS (.inl rfl) rfl rfl rfl (.inl rfl) hx9 Fu3 rfl (flat_I _) rfl ?_; clear hS
       intro tm hS
       refine pp1 hS rfl rfl ?_; clear hS
       intro tm hS
       refine o_nil (hR _ _ ?_)
       clear hR R
       refine c_reg1 fun R hR => ?_
       refine pp3 hS rfl rfl rfl rfl rfl rfl ?_; clear hS
       intro tm hS
       refine o_ld1 (k := 0) hS (.inl rfl) rfl rfl rfl (.inl rfl) Fu22 rfl rfl ?_; clear hS
       intro tm hS
       refine pp1 hS rfl rfl ?_; clear hS
       intro tm hS
       obtain ⟨y6, hx10, h37⟩ := bindS h37
       refine o_ixA (k := 4) (r := (rI .i64)) hS (.inl rfl) rfl rfl rfl rfl (.inl rfl) Fu22 Fs3 hx10 ?_; clear hS
       intro tm hS
       refine o_ldF (r := (rI .i64)) (k := 4) hS (.inl rfl) rfl rfl rfl (.inl rfl) hx10 Fu3 rfl (flat_I _) rfl ?_; clear hS
       intro tm hS
       refine pp3 hS rfl rfl rfl rfl rfl rfl ?_; clear hS
       intro tm hS
       refine o_lit (r := (rI .i64)) (l := [(IntKind.i64.wrap ((IntKind.i64.wrap (y4 * y6)) + y5))]) hS (.inl rfl) rfl Fl22 rfl rfl rfl (.cons rfl .nil) rfl rfl (ri_1 (rd_flat fun _ => rfl) ri_nil) rfl ?_; clear hS
       intro v18 tm H hS
       obtain ⟨l2, hx11, h37⟩ := bindS h37
       refine o_app (k1 := 4) (k2 := 0) (r := (rI .i64)) hS (.inl rfl) rfl rfl rfl rfl rfl (.inr (.inr rfl)) rfl Fe22_22 rfl hx11 ?_; clear hS
       intro v19 tm H hS
       refine pp1 hS rfl rfl ?_; clear hS
       intro tm hS
       refine o_nil (hR _ _ ?_)
       clear hR R
       refine cs2 hS rfl rfl rfl rfl ?_; clear hS
       intro tm hS
       obtain rfl := Option.some.inj h37
       refine ⟨_, rfl, ?_⟩
       refine Exists.intro v19 ?_; change S wm 110 _ _ _ _ Fr; exact hS.keep (ka_cons rfl (ka_cons rfl (ka_cons rfl (ka_cons rfl (ka_cons rfl (ka_cons rfl (ka_cons rfl (ka_cons rfl (ka_cons rfl (ka_cons rfl (ka_cons rfl (ka_cons rfl (ka_cons rfl (ka_cons rfl (ka_cons rfl (ka_cons rfl ka_nil)))))))))))))))) (fun hI => (hI.sub (sd (sc (sc (sc (sc (sc (sc (sc (sc (sc (sc sn)))))))))))))
      ·replace h37 := iteF hc h37
       refine wpC.exit ?_
       refine seqX ?_
       obtain rfl := Option.some.inj h37
       obtain rfl := hq37 _ rfl
       refine And.intro rfl (blk_eq ?_)
       replace h35 := joinN h35
       refine cs2 hS rfl rfl rfl rfl ?_; clear hS
       intro tm hS
       obtain rfl := Option.some.inj h35
       refine ⟨_, rfl, ?_⟩
       refine Exists.intro v17 ?_; change S wm 110 _ _ _ _ Fr; exact hS.keep (k12 rfl rfl rfl rfl rfl rfl rfl rfl rfl rfl rfl rfl) (fun hI => (hI.sub (sc (sc (sc (sc (sc (sc (sc (sc (sc (sc sn))))))))))))
     ·replace h35 := iteF hc h35
      refine wpC.exit ?_
      refine seqX ?_
      obtain rfl := Option.some.inj h35
      obtain rfl := hq35 _ rfl
      refine And.intro rfl (blk_eq ?_)
      replace h29 := joinN h29
      refine c_reg1 fun R hR => ?_
      refine pp2 hS rfl rfl rfl rfl ?_; clear hS
      intro tm hS
      refine o_st (k := 2) hS (.inl rfl) rfl rfl rfl Fs22 (cells_one (hS.one (k := 3) rfl (.inr (.inl rfl)))) rfl (all_cons (hS.one (k := 3) rfl (.inr (.inl rfl))) all_nil) rfl ?_; clear hS; try clear H
      intro H hS
      refine o_nil (hR _ _ ?_)
      clear hR R
      refine cs2 hS rfl rfl rfl rfl ?_; clear hS
      intro tm hS
      obtain rfl := Option.some.inj h29
      refine ⟨_, rfl, ?_⟩
      refine Exists.intro v16 ?_; change S wm 110 _ _ _ _ Fr; exact hS.keep (k6 rfl rfl rfl rfl rfl rfl) (fun hI => (hI.sub (sc (sc (sc (sc (sc (sc (sc (sd (sd (sc sn))))))))))))
    ·replace h29 := iteF hc h29
     refine wpC.exit ?_
     refine seqX ?_
     obtain rfl := Option.some.inj h29
     obtain rfl := hq29 _ rfl
     refine And.intro rfl (blk_eq ?_)
     replace h0 := joinN h0
     refine c_reg fun R hR => ?_
     refine o_ldA (k := 2) hS (.inl rfl) rfl rfl rfl (.inl rfl) Fu94 rfl Fs94 rfl ?_; clear hS
     intro tm hS
     refine o_st (k := 1) hS (.inl rfl) rfl rfl rfl Fs94 rfl rfl (all_cons (hS.one (k := 6) rfl (.inr (.inl rfl))) (all_cons (hS.one (k := 3) rfl (.inr (.inl rfl))) all_nil)) rfl ?_; clear hS; try clear H
     intro H hS
     refine pp1 hS rfl rfl ?_; clear hS
     intro tm hS
     refine o_nil (hR _ _ ?_)
     clear hR R
     refine wpC.ret ?_
     obtain rfl := Option.some.inj h0
     refine Exists.intro _ (And.intro (rs_cellA (k := 1) hS rfl rfl (.inl rfl) Fu94 rfl Fs94 rfl (rs_tmp hS rfl rs_nil)) ?_)
     have hI := hS.inv
     exact ⟨v5, v14, rfl, (((hI.pull 3 rfl).pull 6 rfl).take 2)⟩
theorem wk27 {wm : Nat} {H : AHeap} {Fr : List Ent}  (v1 : Val) (places1 : (List Am.Place))  (v2 : Value) (v3 : Value) (v4 : Value) (hI : Kn wm H [.fz (rI .i64) v2 v1.Shape, .fz (rI .i64) v3 v1.Data, .fz rPlace v4 places1] Fr) {r : Val × Int} (h0 : M.index_Get v1 places1 = some r) :
  wpF Try.prog ora wm 27 [.agg #[.bool v1.Char, v2, v3], v4] H (fun res H => ∃ v10 v11, res = .tuple #[.agg #[.bool r.1.Char, v10, v11], .int .i64 r.2] ∧ Kn wm H [.own (rI .i64) v10 r.1.Shape, .own (rI .i64) v11 r.1.Data] Fr) := by
 unfold M.index_Get at h0
 refine f_enter (n := 45) Try.func27 rfl (by simp) hI rfl rfl rfl fun tm hS => ?_
 clear hI
 refine c_reg fun R hR => ?_
 refine o_box hS (.inl rfl) rfl rfl rfl (all_cons rfl (all_cons (hS.one (k := 0) rfl (.inl rfl)) (all_cons (hS.one (k := 1) rfl (.inl rfl)) all_nil))) ?_; clear hS
 intro b1 tm H hS
 refine o_alloc hS (.inl rfl) rfl Fz25 (by decide) ?_; clear hS
 intro b2 tm H hS
 refine pp1 hS rfl rfl ?_; clear hS
 intro tm hS
 refine o_nil (hR _ _ ?_)
 clear hR R
 refine c_reg fun R hR => ?_
 refine o_ldA (k := 1) hS (.inl rfl) rfl rfl rfl (.inl rfl) Fu25 rfl Fs25 rfl ?_; clear hS
 intro tm hS
 refine pp1 hS rfl rfl ?_; clear hS
 intro tm hS
 obtain ⟨⟨r1, r2⟩, hx1, h0⟩ := bindS h0
 refine o_call hS (.inl rfl) rfl (fun wm' hw1 hw2 => wk51  v1 places1  v2 v3 v4 ((((hS.sel hw2).ad 4 rfl).ad 3 rfl).ad 2 rfl) hx1) (fun wm' res H hw' hp => ?_)
 obtain ⟨v5, v6, hres, hI⟩ := hp
 replace hres := hres.symm; subst hres
 replace hS : S wm 45 _ H ((14, .tuple #[.agg #[v5, v6], .int .i64 r2]) :: _) ([.own (rI .i64) v5 r1.shape, .own (rI .i64) v6 r1.offsets] ++ _) Fr := hS.after rfl hw' hI
 clear hI hw'
 refine pp3 hS rfl rfl rfl rfl rfl rfl ?_; clear hS
 intro tm hS
 refine o_alloc hS (.inl rfl) rfl Fz94 (by decide) ?_; clear hS
 intro b3 tm H hS
 refine o_st (k := 0) hS (.inl rfl) rfl rfl rfl Fs94 rfl rfl (all_cons (hS.one (k := 1) rfl (.inr (.inl rfl))) (all_cons (hS.one (k := 2) rfl (.inr (.inl rfl))) all_nil)) rfl ?_; clear hS; try clear H
 intro H hS
 refine pp1 hS rfl rfl ?_; clear hS
 intro tm hS
 refine o_nil (hR _ _ ?_)
 clear hR R
 refine c_seqS ?_
 refine cr2 hS rfl rfl rfl rfl ?_; clear hS
 intro tm hS
 refine c_cond hS rfl (fun hc => ?_) (fun hc => ?_)
 ·replace h0 := iteT hc h0
  refine c_reg fun R hR => ?_
  refine o_build hS (.inl rfl) rfl Fb25 rfl .nil rfl ?_; clear hS
  intro tm hS
  refine pp1 hS rfl rfl ?_; clear hS
  intro tm hS
  refine o_st (k := 3) hS (.inl rfl) rfl rfl rfl Fs25 rfl rfl (all_cons rfl (all_cons rfl (all_cons rfl all_nil))) rfl ?_; clear hS; try clear H
  intro H hS
  refine pp1 hS rfl rfl ?_; clear hS
  intro tm hS
  refine o_nil (hR _ _ ?_)
  clear hR R
  refine wpC.ret ?_
  obtain rfl := Option.some.inj h0
  replace hS := hS.nilOwn (rI .i64)
  replace hS := hS.nilOwn (rI .i64)
  refine Exists.intro _ (And.intro (rs_cellA (k := 5) hS rfl rfl (.inl rfl) Fu25 rfl Fs25 rfl (rs_tmp hS rfl rs_nil)) ?_)
  have hI := hS.inv
  exact ⟨(.slice none 0 0), (.slice none 0 0), rfl, (((hI.pull 0 rfl).pull 1 rfl).take 2)⟩
 ·replace h0 := iteF hc h0
  refine wpC.skip ?_
  refine c_reg fun R hR => ?_
  refine pp1 hS rfl rfl ?_; clear hS
  intro tm hS
  refine o_ld1 (k := 4) hS (.inl rfl) rfl rfl rfl (.inl rfl) Fu4 rfl rfl ?_; clear hS
  intro tm hS
  refine pp1 hS rfl rfl ?_; clear hS
  intro tm hS
  refine o_ld1 (k := 0) hS (.inl rfl) rfl rfl rfl (.inl rfl) Fu22 rfl rfl ?_; clear hS
  intro tm hS
  refine o_build hS (.inl rfl) rfl Fb25 rfl (.cons rfl (.cons (cells_one (hS.one (k := 1) rfl (.inr (.inl rfl)))) .nil)) rfl ?_; clear hS
  intro tm hS
  refine o_alloc hS (.inl rfl) rfl Fz25 (by decide) ?_; clear hS
  intro b4 tm H hS
  refine o_st (k := 0) hS (.inl rfl) rfl rfl rfl Fs25 rfl rfl (all_cons rfl (all_cons (hS.one (k := 2) rfl (.inr (.inl rfl))) (all_cons rfl all_nil))) rfl ?_; clear hS; try clear H
  intro H hS
  refine o_nil (hR _ _ ?_)
  clear hR R
  refine c_seqS ?_
  refine c_reg fun R hR => ?_
  refine pp1 hS rfl rfl ?_; clear hS
  intro tm hS
  refine o_ld1 (k := 1) hS (.inl rfl) rfl rfl rfl (.inl rfl) Fu22 rfl rfl ?_; clear hS
  intro tm hS
  refine o_len (k := 3) (r := (rI .i64)) hS (.inl rfl) rfl rfl rfl (.inr (.inl rfl)) Fu22 rfl ?_; clear hS
  intro tm hS
  refine pp1 hS rfl rfl ?_; clear hS
  intro tm hS
  refine o_nil (hR _ _ ?_)
  clear hR R
  obtain ⟨k1, hw1, h0⟩ := bindS h0
  refine wpC.block ?_
  replace hS := hS.nilOwn (rI .i64)
  refine c_loop (I := fun (s : Int × (List Int)) tm H => match (generalizing := false) s with | (t1, Data1) => ∃ v7, S wm 45 tm H [(2, .pointer (some ⟨b1, 0, none⟩)), (4, .pointer (some ⟨b2, 0, none⟩)), (8, .pointer (some ⟨b4, 0, none⟩)), (27, v6), (28, .int .i64 (r1.offsets.length : Int)), (29, .int .i64 t1)] [.box b1 [.bool v1.Char, v2, v3], .box b2 [.bool false, (.slice none 0 0), (.slice none 0 0)], .box b4 [.bool v1.Char, v5, v7], .own (rI .i64) v7 Data1, .fz (rI .i64) v2 v1.Shape, .fz (rI .i64) v3 v1.Data, .own (rI .i64) v5 r1.shape, .own (rI .i64) v6 r1.offsets] Fr) hw1 (by refine Exists.intro (.slice none 0 0) ?_; change S wm 45 _ _ _ _ Fr; exact hS.keep (k6 rfl rfl rfl rfl rfl rfl) (fun hI => (hI.pick [6, 5, 1, 0, 7, 8, 3, 4] rfl))) ?_
  clear hS
  intro s1 tm H c1 hS h1 hq1
  obtain ⟨t1, Data1⟩ := s1
  obtain ⟨v7, hS⟩ := hS
  change S wm 45 tm H [(2, .pointer (some ⟨b1, 0, none⟩)), (4, .pointer (some ⟨b2, 0, none⟩)), (8, .pointer (some ⟨b4, 0, none⟩)), (27, v6), (28, .int .i64 (r1.offsets.length : Int)), (29, .int .i64 t1)] [.box b1 [.bool v1.Char, v2, v3], .box b2 [.bool false, (.slice none 0 0), (.slice none 0 0)], .box b4 [.bool v1.Char, v5, v7], .own (rI .i64) v7 Data1, .fz (rI .i64) v2 v1.Shape, .fz (rI .i64) v3 v1.Data, .own (rI .i64) v5 r1.shape, .own (rI .i64) v6 r1.offsets] Fr at hS
  refine cr1 hS rfl rfl ?_; clear hS
  intro tm hS
  refine c_seqS ?_
  refine c_cond hS rfl (fun hc => ?_) (fun hc => ?_)
  ·replace h1 := iteT hc h1
   refine wpC.skip ?_
   refine c_seqS ?_
   refine wpC.block ?_
   refine c_reg fun R hR => ?_
   obtain ⟨y1, hx2, h1⟩ := bindS h1
   refine o_ixA (k := 7) (r := (rI .i64)) hS (.inl rfl) rfl rfl rfl rfl (.inr (.inl rfl)) Fu22 Fs3 hx2 ?_; clear hS
   intro tm hS
   refine o_ldF (r := (rI .i64)) (k := 7) hS (.inl rfl) rfl rfl rfl (.inr (.inl rfl)) hx2 Fu3 rfl (flat_I _) rfl ?_; clear hS
   intro tm hS
   refine pp1 hS rfl rfl ?_; clear hS
   intro tm hS
   refine o_nil (hR _ _ ?_)
   clear hR R
   refine c_reg1 fun R hR => ?_
   refine pp1 hS rfl rfl ?_; clear hS
   intro tm hS
   refine o_ld1 (k := 2) hS (.inl rfl) rfl rfl rfl (.inl rfl) Fu23 rfl rfl ?_; clear hS
   intro tm hS
   refine pp1 hS rfl rfl ?_; clear hS
   intro tm hS
   refine o_ld1 (k := 0) hS (.inl rfl) rfl rfl rfl (.inl rfl) Fu23 rfl rfl ?_; clear hS
   intro tm hS
   refine pp1 hS rfl rfl ?_; clear hS
   intro tm hS
   obtain ⟨y2, hx3, h1⟩ := bindS h1
   refine o_ixA (k := 5) (r := (rI .i64)) hS (.inl rfl) rfl rfl rfl rfl (.inl rfl) Fu23 Fs2 hx3 ?_; clear hS
   intro tm hS
   refine o_ldF (r := (rI .i64)) (k := 5) hS (.inl rfl) rfl rfl rfl (.inl rfl) hx3 Fu2 rfl (flat_I _) rfl ?_; clear hS
   intro tm hS
   refine o_lit (r := (rI .i64)) (l := [y2]) hS (.inl rfl) rfl Fl23 rfl rfl rfl (.cons rfl .nil) rfl rfl (ri_1 (rd_flat fun _ => rfl) ri_nil) rfl ?_; clear hS
   intro v8 tm H hS
   obtain ⟨l1, hx4, h1⟩ := bindS h1
   refine o_app (k1 := 4) (k2 := 0) (r := (rI .i64)) hS (.inl rfl) rfl rfl rfl rfl rfl (.inr (.inr rfl)) rfl Fe23_23 rfl hx4 ?_; clear hS
   intro v9 tm H hS
   refine pp1 hS rfl rfl ?_; clear hS
   intro tm hS
   refine o_st (k := 3) hS (.inl rfl) rfl rfl rfl Fs23 (cells_one (hS.one (k := 4) rfl (.inr (.inl rfl)))) rfl (all_cons (hS.one (k := 4) rfl (.inr (.inl rfl))) all_nil) rfl ?_; clear hS; try clear H
   intro H hS
   refine o_nil (hR _ _ ?_)
   clear hR R
   refine cs2 hS rfl rfl rfl rfl ?_; clear hS
   intro tm hS
   obtain rfl := Option.some.inj h1
   refine ⟨_, rfl, ?_⟩
   refine Exists.intro v9 ?_; change S wm 45 _ _ _ _ Fr; exact hS.keep (k6 rfl rfl rfl rfl rfl rfl) (fun hI => (hI.sub (sd (sc (sc (sc (sc (sc (sc (sc (sc sn)))))))))))
  ·replace h1 := iteF hc h1
   refine wpC.exit ?_
   refine seqX ?_
   obtain rfl := Option.some.inj h1
   obtain rfl := hq1 _ rfl
   refine And.intro rfl (blk_eq ?_)
   replace h0 := joinN h0
   refine c_reg fun R hR => ?_
   refine o_ldA (k := 2) hS (.inl rfl) rfl rfl rfl (.inl rfl) Fu25 rfl Fs25 rfl ?_; clear hS
   intro tm hS
   refine o_st (k := 1) hS (.inl rfl) rfl rfl rfl Fs25 rfl rfl (all_cons rfl (all_cons (hS.one (k := 6) rfl (.inr (.inl rfl))) (all_cons (hS.one (k := 3) rfl (.inr (.inl rfl))) all_nil))) rfl ?_; clear hS; try clear H
   intro H hS
   refine pp1 hS rfl rfl ?_; clear hS
   intro tm hS
   refine o_nil (hR _ _ ?_)
   clear hR R
   refine wpC.ret ?_
   obtain rfl := Option.some.inj h0
   refine Exists.intro _ (And.intro (rs_cellA (k := 1) hS rfl rfl (.inl rfl) Fu25 rfl Fs25 rfl (rs_tmp hS rfl rs_nil)) ?_)
   have hI := hS.inv
   exact ⟨v5, v7, rfl, (((hI.pull 3 rfl).pull 6 rfl).take 2)⟩
theorem wk52 {wm : Nat} {H : AHeap} {Fr : List Ent}  (fn1 : ByteArray)   (hI : Kn wm H [] Fr) {r : Bool} (h0 : M.scalar_Is fn1 = some r) :
  wpF Try.prog ora wm 52 [.string fn1] H (fun res H => res = .bool r ∧ Kn wm H [] Fr) := by
 unfold M.scalar_Is at h0
 refine f_enter (n := 12) Try.func52 rfl (by simp) hI rfl rfl rfl fun tm hS => ?_
 clear hI
 refine cr1 hS rfl rfl ?_; clear hS
 intro tm hS
 refine c_reg fun R hR => ?_
 refine pp1 hS rfl rfl ?_; clear hS
 intro tm hS
 obtain ⟨⟨r1, r2⟩, hx1, h0⟩ := bindS h0
 refine o_call hS (.inl rfl) rfl (fun wm' hw1 hw2 => wk69  fn1   (hS.sel hw2) hx1) (fun wm' res H hw' hp => ?_)
 obtain ⟨hres, hI⟩ := hp
 replace hres := hres.symm; subst hres
 replace hS : S wm 12 _ H ((7, .tuple #[.int .i64 r1, .int .i64 r2]) :: _) ([] ++ _) Fr := hS.after rfl hw' hI
 clear hI hw'
 refine pp5 hS rfl rfl rfl rfl rfl rfl rfl rfl rfl rfl ?_; clear hS
 intro tm hS
 refine o_nil (hR _ _ ?_)
 clear hR R
 refine cr3 hS rfl rfl rfl rfl rfl rfl ?_; clear hS
 intro tm hS
 refine wpC.ret ?_
 obtain rfl := Option.some.inj h0
 refine Exists.intro _ (And.intro (rs_tmp hS rfl rs_nil) ?_)
 have hI := hS.inv
 exact ⟨rfl, (hI.sub sn)⟩
theorem wk83 {wm : Nat} {H : AHeap} {Fr : List Ent}  (s1 : (List Int)) (s2 : (List Int))  (v1 : Value) (v2 : Value) (hI : Kn wm H [.fz (rI .i64) v1 s1, .fz (rI .i64) v2 s2] Fr) {r : Bool} (h0 : M.slices_Equal__int s1 s2 = some r) :
  wpF Try.prog ora wm 83 [v1, v2] H (fun res H => res = .bool r ∧ Kn wm H [] Fr) := by
 unfold M.slices_Equal__int at h0
 refine f_enter (n := 26) Try.func83 rfl (by simp) hI rfl rfl rfl fun tm hS => ?_
 clear hI
 refine cr1 hS rfl rfl ?_; clear hS
 intro tm hS
 refine c_seqS ?_
 refine c_reg fun R hR => ?_
 refine pp1 hS rfl rfl ?_; clear hS
 intro tm hS
 refine o_len (k := 0) (r := (rI .i64)) hS (.inl rfl) rfl rfl rfl (.inl rfl) Fu22 rfl ?_; clear hS
 intro tm hS
 refine pp1 hS rfl rfl ?_; clear hS
 intro tm hS
 refine o_len (k := 1) (r := (rI .i64)) hS (.inl rfl) rfl rfl rfl (.inl rfl) Fu22 rfl ?_; clear hS
 intro tm hS
 refine pp1 hS rfl rfl ?_; clear hS
 intro tm hS
 refine o_nil (hR _ _ ?_)
 clear hR R
 refine c_cond hS rfl (fun hc => ?_) (fun hc => ?_)
 ·replace h0 := iteT hc h0
  refine cr1 hS rfl rfl ?_; clear hS
  intro tm hS
  refine wpC.ret ?_
  obtain rfl := Option.some.inj h0
  refine Exists.intro _ (And.intro (rs_tmp hS rfl rs_nil) ?_)
  have hI := hS.inv
  exact ⟨rfl, (hI.sub sn)⟩
 ·replace h0 := iteF hc h0
  refine wpC.skip ?_
  refine c_seqS ?_
  refine c_reg fun R hR => ?_
  refine pp1 hS rfl rfl ?_; clear hS
  intro tm hS
  refine o_len (k := 0) (r := (rI .i64)) hS (.inl rfl) rfl rfl rfl (.inl rfl) Fu22 rfl ?_; clear hS
  intro tm hS
  refine pp1 hS rfl rfl ?_; clear hS
  intro tm hS
  refine o_nil (hR _ _ ?_)
  clear hR R
  obtain ⟨k1, hw1, h0⟩ := bindS h0
  refine wpC.block ?_
  refine c_loop (I := fun (s : Int) tm H => match (generalizing := false) s with | t1 => S wm 26 tm H [(0, v1), (1, v2), (12, .int .i64 (s1.length : Int)), (13, .int .i64 t1)] [.fz (rI .i64) v1 s1, .fz (rI .i64) v2 s2] Fr) hw1 (by change S wm 26 _ _ _ _ Fr; exact hS.keep (k4 rfl rfl rfl rfl) (fun hI => (hI.sub (sc (sc sn))))) ?_
  clear hS
  intro t1 tm H c1 hS h1 hq1
  change S wm 26 tm H [(0, v1), (1, v2), (12, .int .i64 (s1.length : Int)), (13, .int .i64 t1)] [.fz (rI .i64) v1 s1, .fz (rI .i64) v2 s2] Fr at hS
  refine cr1 hS rfl rfl ?_; clear hS
  intro tm hS
  refine c_seqS ?_
  refine c_cond hS rfl (fun hc => ?_) (fun hc => ?_)
  ·replace h1 := iteT hc h1
   refine wpC.skip ?_
   refine c_seqS ?_
   refine wpC.block ?_
   refine cr2 hS rfl rfl rfl rfl ?_; clear hS
   intro tm hS
   refine c_reg fun R hR => ?_
   refine pp2 hS rfl rfl rfl rfl ?_; clear hS
   intro tm hS
   obtain ⟨y1, hx1, h1⟩ := bindS h1
   refine o_ixA (k := 0) (r := (rI .i64)) hS (.inl rfl) rfl rfl rfl rfl (.inl rfl) Fu22 Fs3 hx1 ?_; clear hS
   intro tm hS
   refine o_ldF (r := (rI .i64)) (k := 0) hS (.inl rfl) rfl rfl rfl (.inl rfl) hx1 Fu3 rfl (flat_I _) rfl ?_; clear hS
   intro tm hS
   refine pp2 hS rfl rfl rfl rfl ?_; clear hS
   intro tm hS
   obtain ⟨y2, hx2, h1⟩ := bindS h1
   refine o_ixA (k := 1) (r := (rI .i64)) hS (.inl rfl) rfl rfl rfl rfl (.inl rfl) Fu22 Fs3 hx2 ?_; clear hS
   intro tm hS
   refine o_ldF (r := (rI .i64)) (k := 1) hS (.inl rfl) rfl rfl rfl (.inl rfl) hx2 Fu3 rfl (flat_I _) rfl ?_; clear hS
   intro tm hS
   refine pp1 hS rfl rfl ?_; clear hS
   intro tm hS
   refine o_nil (hR _ _ ?_)
   clear hR R
   refine c_cond hS rfl (fun hc => ?_) (fun hc => ?_)
   ·replace h1 := iteT hc h1
    refine cr1 hS rfl rfl ?_; clear hS
    intro tm hS
    refine wpC.ret ?_
    obtain rfl := Option.some.inj h1
    obtain rfl := hq1 _ rfl
    refine And.intro rfl ?_
    obtain rfl := leave h0
    refine Exists.intro _ (And.intro (rs_tmp hS rfl rs_nil) ?_)
    have hI := hS.inv
    exact ⟨rfl, (hI.sub sn)⟩
   ·replace h1 := iteF hc h1
    refine wpC.skip ?_
    refine cs2 hS rfl rfl rfl rfl ?_; clear hS
    intro tm hS
    obtain rfl := Option.some.inj h1
    refine ⟨_, rfl, ?_⟩
    change S wm 26 _ _ _ _ Fr; exact hS.keep (k4 rfl rfl rfl rfl) (fun hI => (hI.sub (sc (sc sn))))
  ·replace h1 := iteF hc h1
   refine wpC.exit ?_
   refine seqX ?_
   obtain rfl := Option.some.inj h1
   obtain rfl := hq1 _ rfl
   refine And.intro rfl (blk_eq ?_)
   replace h0 := joinN h0
   refine cr1 hS rfl rfl ?_; clear hS
   intro tm hS
   refine wpC.ret ?_
   obtain rfl := Option.some.inj h0
   refine Exists.intro _ (And.intro (rs_tmp hS rfl rs_nil) ?_)
   have hI := hS.inv
   exact ⟨rfl, (hI.sub sn)⟩
theorem wk54 {wm : Nat} {H : AHeap} {Fr : List Ent}  (a1 : Val) (b1 : Val)  (v1 : Value) (v2 : Value) (v3 : Value) (v4 : Value) (hI : Kn wm H [.fz (rI .i64) v1 a1.Shape, .fz (rI .i64) v2 a1.Data, .fz (rI .i64) v3 b1.Shape, .fz (rI .i64) v4 b1.Data] Fr) {r : (List Int) × Int × Int} (h0 : M.scalar_alike a1 b1 = some r) :
  wpF Try.prog ora wm 54 [.agg #[.bool a1.Char, v1, v2], .agg #[.bool b1.Char, v3, v4]] H (fun res H => ∃ v5, res = .tuple #[v5, .int .i64 r.2.1, .int .i64 r.2.2] ∧ Kn wm H [.fz (rI .i64) v5 r.1] Fr) := by
 unfold M.scalar_alike at h0
 refine f_enter (n := 57) Try.func54 rfl (by simp) hI rfl rfl rfl fun tm hS => ?_
 clear hI
 refine c_reg fun R hR => ?_
 refine o_box hS (.inl rfl) rfl rfl rfl (all_cons rfl (all_cons (hS.one (k := 0) rfl (.inl rfl)) (all_cons (hS.one (k := 1) rfl (.inl rfl)) all_nil))) ?_; clear hS
 intro b2 tm H hS
 refine o_box hS (.inl rfl) rfl rfl rfl (all_cons rfl (all_cons (hS.one (k := 3) rfl (.inl rfl)) (all_cons (hS.one (k := 4) rfl (.inl rfl)) all_nil))) ?_; clear hS
 intro b3 tm H hS
 refine pp3 hS rfl rfl rfl rfl rfl rfl ?_; clear hS
 intro tm hS
 refine o_nil (hR _ _ ?_)
 clear hR R
 refine c_reg fun R hR => ?_
 refine pp1 hS rfl rfl ?_; clear hS
 intro tm hS
 refine o_ld1 (k := 1) hS (.inl rfl) rfl rfl rfl (.inl rfl) Fu23 rfl rfl ?_; clear hS
 intro tm hS
 refine o_len (k := 3) (r := (rI .i64)) hS (.inl rfl) rfl rfl rfl (.inl rfl) Fu23 rfl ?_; clear hS
 intro tm hS
 refine pp2 hS rfl rfl rfl rfl ?_; clear hS
 intro tm hS
 refine o_ld1 (k := 0) hS (.inl rfl) rfl rfl rfl (.inl rfl) Fu23 rfl rfl ?_; clear hS
 intro tm hS
 refine o_len (k := 5) (r := (rI .i64)) hS (.inl rfl) rfl rfl rfl (.inl rfl) Fu23 rfl ?_; clear hS
 intro tm hS
 refine pp3 hS rfl rfl rfl rfl rfl rfl ?_; clear hS
 intro tm hS
 refine o_nil (hR _ _ ?_)
 clear hR R
 refine c_seqS ?_
 refine wpC.block ?_
 refine c_reg fun R hR => ?_
 refine pp2 hS rfl rfl rfl rfl ?_; clear hS
 intro tm hS
 obtain ⟨c1, hc1⟩ : ∃ x : Bool, x = (((a1.Data.length : Int) == 1) && ((!((b1.Data.length : Int) == 1)) || (decide ((b1.Shape.length : Int) > (a1.Shape.length : Int))))) := ⟨_, rfl⟩
 refine o_cutN 12 (J := fun tm H => S wm 57 tm H [(31, .bool c1), (2, .pointer (some ⟨b2, 0, none⟩)), (3, .pointer (some ⟨b3, 0, none⟩)), (8, .bool ((b1.Data.length : Int) == 1))] [.box b3 [.bool b1.Char, v3, v4], .box b2 [.bool a1.Char, v1, v2], .fz (rI .i64) v1 a1.Shape, .fz (rI .i64) v2 a1.Data, .fz (rI .i64) v3 b1.Shape, .fz (rI .i64) v4 b1.Data] Fr) ?_ ?_
 ·rcases Bool.eq_false_or_eq_true ((a1.Data.length : Int) == 1) with hg1 | hg1
  ·refine o_pure hS (.inr ⟨_, _, _, _, rfl, rfl, rfl, hg1⟩) rfl rfl ?_; clear hS
   intro tm hS
   refine o_pure hS (.inr ⟨_, _, _, _, rfl, rfl, rfl, hg1⟩) rfl rfl ?_; clear hS
   intro tm hS
   refine o_pure hS (.inr ⟨_, _, _, _, rfl, rfl, rfl, hg1⟩) rfl rfl ?_; clear hS
   intro tm hS
   obtain ⟨c2, hc2⟩ : ∃ x : Bool, x = ((!((b1.Data.length : Int) == 1)) || (decide ((b1.Shape.length : Int) > (a1.Shape.length : Int)))) := ⟨_, rfl⟩
   refine o_cutN 8 (J := fun tm H => S wm 57 tm H [(30, .bool c2), (2, .pointer (some ⟨b2, 0, none⟩)), (3, .pointer (some ⟨b3, 0, none⟩)), (8, .bool ((b1.Data.length : Int) == 1)), (19, .bool ((a1.Data.length : Int) == 1))] [.box b3 [.bool b1.Char, v3, v4], .box b2 [.bool a1.Char, v1, v2], .fz (rI .i64) v1 a1.Shape, .fz (rI .i64) v2 a1.Data, .fz (rI .i64) v3 b1.Shape, .fz (rI .i64) v4 b1.Data] Fr) ?_ ?_
   ·rcases Bool.eq_false_or_eq_true (!((b1.Data.length : Int) == 1)) with hg2 | hg2
    ·refine o_skip hS rfl rfl rfl hg2 ?_; clear hS
     intro tm hS
     refine o_skip hS rfl rfl rfl hg2 ?_; clear hS
     intro tm hS
     refine o_skip hS rfl rfl rfl hg2 ?_; clear hS
     intro tm hS
     refine o_skip hS rfl rfl rfl hg2 ?_; clear hS
     intro tm hS
     refine o_skip hS rfl rfl rfl hg2 ?_; clear hS
     intro tm hS
     refine o_skip hS rfl rfl rfl hg2 ?_; clear hS
     intro tm hS
     refine o_skip hS rfl rfl rfl hg2 ?_; clear hS
     intro tm hS
     refine o_pickT hS (.inr ⟨_, _, _, _, rfl, rfl, rfl, hg1⟩) rfl rfl hg2 rfl ?_; clear hS
     intro tm hS
     have hc2 : c2 = true := hc2.trans (by rw [hg2]; first | rfl | simp)
     subst hc2
     exact o_nil (hS.keep (k5 rfl rfl rfl rfl rfl) (fun hI => (hI.sub (sc (sc (sc (sc (sc (sc sn)))))))))
    ·refine o_pure hS (.inr ⟨_, _, _, _, rfl, rfl, rfl, hg2⟩) rfl rfl ?_; clear hS
     intro tm hS
     refine o_ld1 (k := 0) hS (.inr ⟨_, _, _, _, rfl, rfl, rfl, hg2⟩) rfl rfl rfl (.inl rfl) Fu22 rfl rfl ?_; clear hS
     intro tm hS
     refine o_len (k := 4) (r := (rI .i64)) hS (.inr ⟨_, _, _, _, rfl, rfl, rfl, hg2⟩) rfl rfl rfl (.inl rfl) Fu22 rfl ?_; clear hS
     intro tm hS
     refine o_pure hS (.inr ⟨_, _, _, _, rfl, rfl, rfl, hg2⟩) rfl rfl ?_; clear hS
     intro tm hS
     refine o_ld1 (k := 1) hS (.inr ⟨_, _, _, _, rfl, rfl, rfl, hg2⟩) rfl rfl rfl (.inl rfl) Fu22 rfl rfl ?_; clear hS
     intro tm hS
     refine o_len (k := 2) (r := (rI .i64)) hS (.inr ⟨_, _, _, _, rfl, rfl, rfl, hg2⟩) rfl rfl rfl (.inl rfl) Fu22 rfl ?_; clear hS
     intro tm hS
     refine o_pure hS (.inr ⟨_, _, _, _, rfl, rfl, rfl, hg2⟩) rfl rfl ?_; clear hS
     intro tm hS
     refine o_pickF hS (.inr ⟨_, _, _, _, rfl, rfl, rfl, hg1⟩) rfl rfl hg2 rfl ?_; clear hS
     intro tm hS
     have hc2 : c2 = (decide ((b1.Shape.length : Int) > (a1.Shape.length : Int))) := hc2.trans (by rw [hg2]; first | rfl | simp)
     subst hc2
     exact o_nil (hS.keep (k5 rfl rfl rfl rfl rfl) (fun hI => (hI.sub (sc (sc (sc (sc (sc (sc sn)))))))))
   intro tm H hS
   subst hc2
   refine o_pickT hS (.inl rfl) rfl rfl hg1 rfl ?_; clear hS
   intro tm hS
   have hc1 : c1 = ((!((b1.Data.length : Int) == 1)) || (decide ((b1.Shape.length : Int) > (a1.Shape.length : Int)))) := hc1.trans (by rw [hg1]; first | rfl | simp)
   subst hc1
   exact o_nil (hS.keep (k4 rfl rfl rfl rfl) (fun hI => (hI.sub (sc (sc (sc (sc (sc (sc sn)))))))))
  ·refine o_skip hS rfl rfl rfl hg1 ?_; clear hS
   intro tm hS
   refine o_skip hS rfl rfl rfl hg1 ?_; clear hS
   intro tm hS
   refine o_skip hS rfl rfl rfl hg1 ?_; clear hS
   intro tm hS
   refine o_skipU hS rfl rfl rfl ?_; clear hS
   intro tm hS
   refine o_skipU hS rfl rfl rfl ?_; clear hS
   intro tm hS
   refine o_skipU hS rfl rfl rfl ?_; clear hS
   intro tm hS
   refine o_skipU hS rfl rfl rfl ?_; clear hS
   intro tm hS
   refine o_skipU hS rfl rfl rfl ?_; clear hS
   intro tm hS
   refine o_skipU hS rfl rfl rfl ?_; clear hS
   intro tm hS
   refine o_skipU hS rfl rfl rfl ?_; clear hS
   intro tm hS
   refine o_skip hS rfl rfl rfl hg1 ?_; clear hS
   intro tm hS
   refine o_pickF hS (.inl rfl) rfl rfl hg1 rfl ?_; clear hS
   intro tm hS
   have hc1 : c1 = false := hc1.trans (by rw [hg1]; first | rfl | simp)
   subst hc1
   exact o_nil (hS.keep (k4 rfl rfl rfl rfl) (fun hI => (hI.sub (sc (sc (sc (sc (sc (sc sn)))))))))
 intro tm H hS
 subst hc1
 refine pp1 hS rfl rfl ?_; clear hS
 intro tm hS
 refine o_nil (hR _ _ ?_)
 clear hR R
 refine c_cond hS rfl (fun hc => ?_) (fun hc => ?_)
 ·replace h0 := iteT hc h0
  refine c_reg fun R hR => ?_
  refine pp1 hS rfl rfl ?_; clear hS
  intro tm hS
  refine o_ld1 (k := 0) hS (.inl rfl) rfl rfl rfl (.inl rfl) Fu22 rfl rfl ?_; clear hS
  intro tm hS
  refine pp1 hS rfl rfl ?_; clear hS
  intro tm hS
  refine o_ld1 (k := 0) hS (.inl rfl) rfl rfl rfl (.inl rfl) Fu23 rfl rfl ?_; clear hS
  intro tm hS
  refine o_len (k := 5) (r := (rI .i64)) hS (.inl rfl) rfl rfl rfl (.inl rfl) Fu23 rfl ?_; clear hS
  intro tm hS
  refine pp3 hS rfl rfl rfl rfl rfl rfl ?_; clear hS
  intro tm hS
  refine o_nil (hR _ _ ?_)
  clear hR R
  refine wpC.ret ?_
  obtain rfl := Option.some.inj h0
  refine Exists.intro _ (And.intro (rs_tmp hS rfl (rs_tmp hS rfl (rs_tmp hS rfl rs_nil))) ?_)
  have hI := hS.inv
  exact ⟨v3, rfl, (hI.sub (sd (sd (sd (sd (sc sn))))))⟩
 ·replace h0 := iteF hc h0
  obtain ⟨t1, h1, h0⟩ := bindS h0
  refine c_seqJ (J := fun tm H => (match (generalizing := false) t1 with | t1 => S wm 57 tm H [(2, .pointer (some ⟨b2, 0, none⟩)), (3, .pointer (some ⟨b3, 0, none⟩)), (37, .bool t1)] [.box b2 [.bool a1.Char, v1, v2], .box b3 [.bool b1.Char, v3, v4], .fz (rI .i64) v1 a1.Shape, .fz (rI .i64) v2 a1.Data, .fz (rI .i64) v3 b1.Shape, .fz (rI .i64) v4 b1.Data] Fr)) ?_ ?_
  ·refine cr2 hS rfl rfl rfl rfl ?_; clear hS
   intro tm hS
   refine c_cond hS rfl (fun hc => ?_) (fun hc => ?_)
   ·replace h1 := iteT hc h1
    refine wpC.skip ?_
    obtain rfl := Option.some.inj h1
    change S wm 57 _ _ _ _ Fr; exact hS.keep (k3 rfl rfl rfl) (fun hI => (((((((hI.pull 5 rfl).pull 5 rfl).pull 5 rfl).pull 5 rfl).pull 4 rfl).pull 5 rfl).take 6))
   ·replace h1 := iteF hc h1
    refine c_reg1 fun R hR => ?_
    refine pp1 hS rfl rfl ?_; clear hS
    intro tm hS
    refine o_ld1 (k := 1) hS (.inl rfl) rfl rfl rfl (.inl rfl) Fu22 rfl rfl ?_; clear hS
    intro tm hS
    refine pp1 hS rfl rfl ?_; clear hS
    intro tm hS
    refine o_ld1 (k := 0) hS (.inl rfl) rfl rfl rfl (.inl rfl) Fu22 rfl rfl ?_; clear hS
    intro tm hS
    obtain ⟨r1, hx1, h1⟩ := bindS h1
    refine o_call hS (.inl rfl) rfl (fun wm' hw1 hw2 => wk83  a1.Shape b1.Shape  v1 v3 (((hS.sel hw2).ad 4 rfl).ad 2 rfl) hx1) (fun wm' res H hw' hp => ?_)
    obtain ⟨hres, hI⟩ := hp
    replace hres := hres.symm; subst hres
    replace hS : S wm 57 _ H ((43, .bool r1) :: _) ([] ++ _) Fr := hS.after rfl hw' hI
    clear hI hw'
    refine pp1 hS rfl rfl ?_; clear hS
    intro tm hS
    refine o_nil (hR _ _ ?_)
    clear hR R
    obtain rfl := Option.some.inj h1
    change S wm 57 _ _ _ _ Fr; exact hS.keep (k3 rfl rfl rfl) (fun hI => (((((((hI.pull 5 rfl).pull 5 rfl).pull 5 rfl).pull 5 rfl).pull 4 rfl).pull 5 rfl).take 6))
  intro tm H hS
  change S wm 57 tm H [(2, .pointer (some ⟨b2, 0, none⟩)), (3, .pointer (some ⟨b3, 0, none⟩)), (37, .bool t1)] [.box b2 [.bool a1.Char, v1, v2], .box b3 [.bool b1.Char, v3, v4], .fz (rI .i64) v1 a1.Shape, .fz (rI .i64) v2 a1.Data, .fz (rI .i64) v3 b1.Shape, .fz (rI .i64) v4 b1.Data] Fr at hS
  refine c_cond hS rfl (fun hc => ?_) (fun hc => ?_)
  ·replace h0 := iteT hc h0
   refine c_reg fun R hR => ?_
   refine pp1 hS rfl rfl ?_; clear hS
   intro tm hS
   refine o_ld1 (k := 0) hS (.inl rfl) rfl rfl rfl (.inl rfl) Fu22 rfl rfl ?_; clear hS
   intro tm hS
   refine pp1 hS rfl rfl ?_; clear hS
   intro tm hS
   refine o_ld1 (k := 0) hS (.inl rfl) rfl rfl rfl (.inl rfl) Fu23 rfl rfl ?_; clear hS
   intro tm hS
   refine o_len (k := 3) (r := (rI .i64)) hS (.inl rfl) rfl rfl rfl (.inl rfl) Fu23 rfl ?_; clear hS
   intro tm hS
   refine pp3 hS rfl rfl rfl rfl rfl rfl ?_; clear hS
   intro tm hS
   refine o_nil (hR _ _ ?_)
   clear hR R
   refine wpC.ret ?_
   obtain rfl := Option.some.inj h0
   refine Exists.intro _ (And.intro (rs_tmp hS rfl (rs_tmp hS rfl (rs_tmp hS rfl rs_nil))) ?_)
   have hI := hS.inv
   exact ⟨v1, rfl, (hI.sub (sd (sd (sc sn))))⟩
  ·replace h0 := iteF hc h0
   refine c_reg fun R hR => ?_
   refine pp1 hS rfl rfl ?_; clear hS
   intro tm hS
   refine o_ld1 (k := 0) hS (.inl rfl) rfl rfl rfl (.inl rfl) Fu22 rfl rfl ?_; clear hS
   intro tm hS
   refine o_len (k := 2) (r := (rI .i64)) hS (.inl rfl) rfl rfl rfl (.inl rfl) Fu22 rfl ?_; clear hS
   intro tm hS
   refine pp1 hS rfl rfl ?_; clear hS
   intro tm hS
   refine o_ld1 (k := 1) hS (.inl rfl) rfl rfl rfl (.inl rfl) Fu22 rfl rfl ?_; clear hS
   intro tm hS
   refine o_len (k := 4) (r := (rI .i64)) hS (.inl rfl) rfl rfl rfl (.inl rfl) Fu22 rfl ?_; clear hS
   intro tm hS
   refine pp2 hS rfl rfl rfl rfl ?_; clear hS
   intro tm hS
   refine o_nil (hR _ _ ?_)
   clear hR R
   refine c_cond hS rfl (fun hc => ?_) (fun hc => ?_)
   ·replace h0 := iteT hc h0
    refine cr3 hS rfl rfl rfl rfl rfl rfl ?_; clear hS
    intro tm hS
    refine wpC.ret ?_
    obtain rfl := Option.some.inj h0
    replace hS := hS.nilFz (rI .i64)
    refine Exists.intro _ (And.intro (rs_tmp hS rfl (rs_tmp hS rfl (rs_tmp hS rfl rs_nil))) ?_)
    have hI := hS.inv
    exact ⟨(.slice none 0 0), rfl, (hI.sub (sc sn))⟩
   ·replace h0 := iteF hc h0
    refine wpC.skip ?_
    refine cr3 hS rfl rfl rfl rfl rfl rfl ?_; clear hS
    intro tm hS
    refine wpC.ret ?_
    obtain rfl := Option.some.inj h0
    replace hS := hS.nilFz (rI .i64)
    refine Exists.intro _ (And.intro (rs_tmp hS rfl (rs_tmp hS rfl (rs_tmp hS rfl rs_nil))) ?_)
    have hI := hS.inv
    exact ⟨(.slice none 0 0), rfl, (hI.sub (sc sn))⟩
theorem wk85 {wm : Nat} {H : AHeap} {Fr : List Ent}  (v1 : Val) (k1 : Int)  (v2 : Value) (v3 : Value) (hI : Kn wm H [.fz (rI .i64) v2 v1.Shape, .fz (rI .i64) v3 v1.Data] Fr) {r : Int} (h0 : M.scalar_at v1 k1 = some r) :
  wpF Try.prog ora wm 85 [.agg #[.bool v1.Char, v2, v3], .int .i64 k1] H (fun res H => res = .int .i64 r ∧ Kn wm H [] Fr) := by
 unfold M.scalar_at at h0
 refine f_enter (n := 18) Try.func85 rfl (by simp) hI rfl rfl rfl fun tm hS => ?_
 clear hI
 refine c_reg fun R hR => ?_
 refine o_box hS (.inl rfl) rfl rfl rfl (all_cons rfl (all_cons (hS.one (k := 0) rfl (.inl rfl)) (all_cons (hS.one (k := 1) rfl (.inl rfl)) all_nil))) ?_; clear hS
 intro b1 tm H hS
 refine pp1 hS rfl rfl ?_; clear hS
 intro tm hS
 refine o_nil (hR _ _ ?_)
 clear hR R
 refine c_seqS ?_
 refine c_reg fun R hR => ?_
 refine pp1 hS rfl rfl ?_; clear hS
 intro tm hS
 refine o_ld1 (k := 0) hS (.inl rfl) rfl rfl rfl (.inl rfl) Fu23 rfl rfl ?_; clear hS
 intro tm hS
 refine o_len (k := 2) (r := (rI .i64)) hS (.inl rfl) rfl rfl rfl (.inl rfl) Fu23 rfl ?_; clear hS
 intro tm hS
 refine pp1 hS rfl rfl ?_; clear hS
 intro tm hS
 refine o_nil (hR _ _ ?_)
 clear hR R
 refine c_cond hS rfl (fun hc => ?_) (fun hc => ?_)
 ·replace h0 := iteT hc h0
  refine c_reg fun R hR => ?_
  refine pp1 hS rfl rfl ?_; clear hS
  intro tm hS
  refine o_ld1 (k := 0) hS (.inl rfl) rfl rfl rfl (.inl rfl) Fu23 rfl rfl ?_; clear hS
  intro tm hS
  obtain ⟨y1, hx1, h0⟩ := bindS h0
  refine o_ixA (k := 2) (r := (rI .i64)) hS (.inl rfl) rfl rfl rfl rfl (.inl rfl) Fu23 Fs2 hx1 ?_; clear hS
  intro tm hS
  refine o_ldF (r := (rI .i64)) (k := 2) hS (.inl rfl) rfl rfl rfl (.inl rfl) hx1 Fu2 rfl (flat_I _) rfl ?_; clear hS
  intro tm hS
  refine pp1 hS rfl rfl ?_; clear hS
  intro tm hS
  refine o_nil (hR _ _ ?_)
  clear hR R
  refine wpC.ret ?_
  obtain rfl := Option.some.inj h0
  refine Exists.intro _ (And.intro (rs_tmp hS rfl rs_nil) ?_)
  have hI := hS.inv
  exact ⟨rfl, (hI.sub sn)⟩
 ·replace h0 := iteF hc h0
  refine wpC.skip ?_
  refine c_reg fun R hR => ?_
  refine pp1 hS rfl rfl ?_; clear hS
  intro tm hS
  refine o_ld1 (k := 0) hS (.inl rfl) rfl rfl rfl (.inl rfl) Fu23 rfl rfl ?_; clear hS
  intro tm hS
  refine pp1 hS rfl rfl ?_; clear hS
  intro tm hS
  obtain ⟨y2, hx2, h0⟩ := bindS h0
  refine o_ixA (k := 2) (r := (rI .i64)) hS (.inl rfl) rfl rfl rfl rfl (.inl rfl) Fu23 Fs2 hx2 ?_; clear hS
  intro tm hS
  refine o_ldF (r := (rI .i64)) (k := 2) hS (.inl rfl) rfl rfl rfl (.inl rfl) hx2 Fu2 rfl (flat_I _) rfl ?_; clear hS
  intro tm hS
  refine pp1 hS rfl rfl ?_; clear hS
  intro tm hS
  refine o_nil (hR _ _ ?_)
  clear hR R
  refine wpC.ret ?_
  obtain rfl := Option.some.inj h0
  refine Exists.intro _ (And.intro (rs_tmp hS rfl rs_nil) ?_)
  have hI := hS.inv
  exact ⟨rfl, (hI.sub sn)⟩
theorem wk57 {wm : Nat} {H : AHeap} {Fr : List Ent} (ho100 : ora 100 = false) (fn1 : ByteArray) (a1 : Val) (b1 : Val) (k1 : Int)  (v1 : Value) (v2 : Value) (v3 : Value) (v4 : Value) (hI : Kn wm H [.fz (rI .i64) v1 a1.Shape, .fz (rI .i64) v2 a1.Data, .fz (rI .i64) v3 b1.Shape, .fz (rI .i64) v4 b1.Data] Fr) {r : Int × Int} (h0 : M.scalar_of fn1 a1 b1 k1 = some r) :
  wpF Try.prog ora wm 57 [.string fn1, .agg #[.bool a1.Char, v1, v2], .agg #[.bool b1.Char, v3, v4], .int .i64 k1] H (fun res H => res = .tuple #[.int .i64 r.1, .int .i64 r.2] ∧ Kn wm H [] Fr) := by
 unfold M.scalar_of at h0
 refine f_enter (n := 29) Try.func57 rfl (by simp) hI rfl rfl rfl fun tm hS => ?_
 clear hI
 refine c_reg fun R hR => ?_
 refine o_box hS (.inl rfl) rfl rfl rfl (all_cons rfl (all_cons (hS.one (k := 0) rfl (.inl rfl)) (all_cons (hS.one (k := 1) rfl (.inl rfl)) all_nil))) ?_; clear hS
 intro b2 tm H hS
 refine o_box hS (.inl rfl) rfl rfl rfl (all_cons rfl (all_cons (hS.one (k := 3) rfl (.inl rfl)) (all_cons (hS.one (k := 4) rfl (.inl rfl)) all_nil))) ?_; clear hS
 intro b3 tm H hS
 refine pp2 hS rfl rfl rfl rfl ?_; clear hS
 intro tm hS
 refine o_nil (hR _ _ ?_)
 clear hR R
 refine c_seqS ?_
 refine c_reg fun R hR => ?_
 refine pp1 hS rfl rfl ?_; clear hS
 intro tm hS
 refine o_ld1 (k := 1) hS (.inl rfl) rfl rfl rfl (.inl rfl) Fu4 rfl rfl ?_; clear hS
 intro tm hS
 refine pp1 hS rfl rfl ?_; clear hS
 intro tm hS
 refine o_ld1 (k := 0) hS (.inl rfl) rfl rfl rfl (.inl rfl) Fu4 rfl rfl ?_; clear hS
 intro tm hS
 refine pp1 hS rfl rfl ?_; clear hS
 intro tm hS
 refine o_nil (hR _ _ ?_)
 clear hR R
 refine c_cond hS rfl (fun hc => ?_) (fun hc => ?_)
 ·replace h0 := iteT hc h0
  refine c_reg fun R hR => ?_
  refine pp1 hS rfl rfl ?_; clear hS
  intro tm hS
  obtain ⟨⟨r1, r2⟩, hx1, h0⟩ := bindS h0
  refine o_call hS (.inl rfl) rfl (fun wm' hw1 hw2 => wk84 ho100 fn1 0 1   (hS.sel hw2) hx1) (fun wm' res H hw' hp => ?_)
  obtain ⟨hres, hI⟩ := hp
  replace hres := hres.symm; subst hres
  replace hS : S wm 29 _ H ((16, .tuple #[.int .i64 r1, .int .i64 r2]) :: _) ([] ++ _) Fr := hS.after rfl hw' hI
  clear hI hw'
  refine pp4 hS rfl rfl rfl rfl rfl rfl rfl rfl ?_; clear hS
  intro tm hS
  refine o_nil (hR _ _ ?_)
  clear hR R
  refine wpC.ret ?_
  obtain rfl := Option.some.inj h0
  refine Exists.intro _ (And.intro (rs_tmp hS rfl (rs_tmp hS rfl rs_nil)) ?_)
  have hI := hS.inv
  exact ⟨rfl, (hI.sub sn)⟩
 ·replace h0 := iteF hc h0
  refine wpC.skip ?_
  refine c_reg fun R hR => ?_
  refine pp1 hS rfl rfl ?_; clear hS
  intro tm hS
  refine o_ldA (k := 1) hS (.inl rfl) rfl rfl rfl (.inl rfl) Fu25 rfl Fs25 rfl ?_; clear hS
  intro tm hS
  refine pp1 hS rfl rfl ?_; clear hS
  intro tm hS
  obtain ⟨r3, hx2, h0⟩ := bindS h0
  refine o_call hS (.inl rfl) rfl (fun wm' hw1 hw2 => wk85  a1 k1  v1 v2 (((hS.sel hw2).ad 3 rfl).ad 2 rfl) hx2) (fun wm' res H hw' hp => ?_)
  obtain ⟨hres, hI⟩ := hp
  replace hres := hres.symm; subst hres
  replace hS : S wm 29 _ H ((22, .int .i64 r3) :: _) ([] ++ _) Fr := hS.after rfl hw' hI
  clear hI hw'
  refine o_ldA (k := 0) hS (.inl rfl) rfl rfl rfl (.inl rfl) Fu25 rfl Fs25 rfl ?_; clear hS
  intro tm hS
  refine pp1 hS rfl rfl ?_; clear hS
  intro tm hS
  obtain ⟨r4, hx3, h0⟩ := bindS h0
  refine o_call hS (.inl rfl) rfl (fun wm' hw1 hw2 => wk85  b1 k1  v3 v4 (((hS.sel hw2).ad 5 rfl).ad 4 rfl) hx3) (fun wm' res H hw' hp => ?_)
  obtain ⟨hres, hI⟩ := hp
  replace hres := hres.symm; subst hres
  replace hS : S wm 29 _ H ((25, .int .i64 r4) :: _) ([] ++ _) Fr := hS.after rfl hw' hI
  clear hI hw'
  obtain ⟨⟨r5, r6⟩, hx4, h0⟩ := bindS h0
  refine o_call hS (.inl rfl) rfl (fun wm' hw1 hw2 => wk84 ho100 fn1 r3 r4   (hS.sel hw2) hx4) (fun wm' res H hw' hp => ?_)
  obtain ⟨hres, hI⟩ := hp
  replace hres := hres.symm; subst hres
  replace hS : S wm 29 _ H ((26, .tuple #[.int .i64 r5, .int .i64 r6]) :: _) ([] ++ _) Fr := hS.after rfl hw' hI
  clear hI hw'
  refine pp4 hS rfl rfl rfl rfl rfl rfl rfl rfl ?_; clear hS
  intro tm hS
  refine o_nil (hR _ _ ?_)
  clear hR R
  refine wpC.ret ?_
  obtain rfl := Option.some.inj h0
  refine Exists.intro _ (And.intro (rs_tmp hS rfl (rs_tmp hS rfl rs_nil)) ?_)
  have hI := hS.inv
  exact ⟨rfl, (hI.sub sn)⟩
theorem wk56 {wm : Nat} {H : AHeap} {Fr : List Ent} (ho100 : ora 100 = false) (k1 : Int) (x1 : ByteArray) (x2 : Val) (x3 : Val)  (b1 : Nat) (v1 : Value) (v2 : Value) (b2 : Nat) (v3 : Value) (v4 : Value) (b3 : Nat) (hI : Kn wm H [.fbox b1 [.string x1], .fz (rI .i64) v1 x2.Shape, .fz (rI .i64) v2 x2.Data, .fbox b2 [.bool x2.Char, v1, v2], .fz (rI .i64) v3 x3.Shape, .fz (rI .i64) v4 x3.Data, .fbox b3 [.bool x3.Char, v3, v4]] Fr) {r : Int × Int} (h0 : M.scalar_Dyad_1 k1 x1 x2 x3 = some r) :
  wpF Try.prog ora wm 56 [.int .i64 k1, .pointer (some ⟨b1, 0, none⟩), .pointer (some ⟨b2, 0, none⟩), .pointer (some ⟨b3, 0, none⟩)] H (fun res H => res = .tuple #[.int .i64 r.1, .int .i64 r.2] ∧ Kn wm H [] Fr) := by
 unfold M.scalar_Dyad_1 at h0
 refine f_enter (n := 14) Try.func56 rfl (by simp) hI rfl rfl rfl fun tm hS => ?_
 clear hI
 refine cr2 hS rfl rfl rfl rfl ?_; clear hS
 intro tm hS
 refine c_reg fun R hR => ?_
 refine o_ld1 (k := 0) hS (.inl rfl) rfl rfl rfl (.inr rfl) Fu9 rfl rfl ?_; clear hS
 intro tm hS
 refine o_ldA (k := 3) hS (.inl rfl) rfl rfl rfl (.inr rfl) Fu25 rfl Fs25 rfl ?_; clear hS
 intro tm hS
 refine o_ldA (k := 6) hS (.inl rfl) rfl rfl rfl (.inr rfl) Fu25 rfl Fs25 rfl ?_; clear hS
 intro tm hS
 refine pp1 hS rfl rfl ?_; clear hS
 intro tm hS
 obtain ⟨⟨r1, r2⟩, hx1, h0⟩ := bindS h0
 refine o_call hS (.inl rfl) rfl (fun wm' hw1 hw2 => wk57 ho100 x1 x2 x3 k1  v1 v2 v3 v4 (((((hS.sel hw2).ad 5 rfl).ad 4 rfl).ad 2 rfl).ad 1 rfl) hx1) (fun wm' res H hw' hp => ?_)
 obtain ⟨hres, hI⟩ := hp
 replace hres := hres.symm; subst hres
 replace hS : S wm 14 _ H ((11, .tuple #[.int .i64 r1, .int .i64 r2]) :: _) ([] ++ _) Fr := hS.after rfl hw' hI
 clear hI hw'
 refine pp4 hS rfl rfl rfl rfl rfl rfl rfl rfl ?_; clear hS
 intro tm hS
 refine o_nil (hR _ _ ?_)
 clear hR R
 refine wpC.ret ?_
 obtain rfl := Option.some.inj h0
 refine Exists.intro _ (And.intro (rs_tmp hS rfl (rs_tmp hS rfl rs_nil)) ?_)
 have hI := hS.inv
 exact ⟨rfl, (hI.sub sn)⟩
theorem wk62 {wm : Nat} {H : AHeap} {Fr : List Ent} (s1 : (List Int)) (v1 : Value) (hI : Kn wm H [.fz (rI .i64) v1 s1] Fr) {r : (List Int)} (h0 : M.slices_Clone__int s1 = some r) :
  wpF Try.prog ora wm 62 [v1] H (fun res H => ∃ v2, res = v2 ∧ Kn wm H [.own (rI .i64) v2 r] Fr) := by
 unfold M.slices_Clone__int at h0
 refine f_enter (n := 8) Try.func62 rfl (by simp) hI rfl rfl rfl fun tm hS => ?_
 refine c_reg fun R hR => ?_
 refine o_pure hS (.inl rfl) rfl rfl fun tm hS => ?_
 refine o_nil (hR _ _ ?_)
 refine c_seqS ?_
 refine c_reg fun R hR => ?_
 refine o_pure hS (.inl rfl) rfl rfl fun tm hS => ?_
 refine o_nilcmp (k := 0) (r := (rI .i64)) hS (.inl rfl) rfl rfl rfl rfl (.inl rfl) Fu22 (fun hl tm hS => ?_) (fun tm hS => ?_)
 ·subst hl
  have hr : r = [] := by simpa [app] using h0.symm
  subst hr
  refine o_nil (hR _ _ ?_)
  refine c_cond hS rfl (fun _ => ?_) (fun h => by cases h)
  refine c_reg fun R hR => ?_
  refine o_pure hS (.inl rfl) rfl rfl fun tm hS => ?_
  refine o_nil (hR _ _ ?_)
  refine wpC.ret ?_
  replace hS := hS.nilOwn (rI .i64)
  refine Exists.intro _ (And.intro (rs_tmp hS rfl rs_nil) ?_)
  exact ⟨_, rfl, hS.inv.take 1⟩
 ·refine o_nil (hR _ _ ?_)
  refine c_cond hS rfl (fun h => by cases h) (fun _ => ?_)
  refine wpC.skip ?_
  refine c_reg fun R hR => ?_
  refine o_lit (r := (rI .i64)) (l := []) hS (.inl rfl) rfl Fl22 rfl rfl rfl .nil rfl rfl ri_nil rfl fun v2 tm H hS => ?_
  refine o_pure hS (.inl rfl) rfl rfl fun tm hS => ?_
  refine o_appL (k1 := 0) (k2 := 1) (r := (rI .i64)) hS (.inl rfl) rfl rfl rfl rfl rfl (.inl rfl) rfl Fe22_22 h0 fun v3 tm H hS => ?_
  refine o_pure hS (.inl rfl) rfl rfl fun tm hS => ?_
  refine o_nil (hR _ _ ?_)
  refine wpC.ret ?_
  refine Exists.intro _ (And.intro (rs_tmp hS rfl rs_nil) ?_)
  exact ⟨_, rfl, hS.inv.take 1⟩
theorem wk55 {wm : Nat} {H : AHeap} {Fr : List Ent}  (shape1 : (List Int)) (n1 : Int) (told1 : (Int → Option (Int × Int))) (gfn2 : FuncId) (gcap2 : Array Value) (E : List Ent) (hE : ∀ e ∈ E, e.blk = none) (hf : ∀ {wm : Nat} {H : AHeap} {Fr : List Ent} (y0 : Int) , Kn wm H (E) Fr → ∀ {r : Int × Int}, told1 y0 = some r → wpF Try.prog ora wm gfn2 ([.int .i64 y0] ++ gcap2.toList) H (fun res H => res = .tuple #[.int .i64 r.1, .int .i64 r.2] ∧ Kn wm H [] Fr)) (v1 : Value) (hI : Kn wm H (.fz (rI .i64) v1 shape1 :: E) Fr) {r : Val × Int} (h0 : M.scalar_made shape1 n1 told1 = some r) :
  wpF Try.prog ora wm 55 [v1, .int .i64 n1, .func (.func gfn2) #[] gcap2] H (fun res H => ∃ v4 v5, res = .tuple #[.agg #[.bool r.1.Char, v4, v5], .int .i64 r.2] ∧ Kn wm H [.own (rI .i64) v4 r.1.Shape, .own (rI .i64) v5 r.1.Data] Fr) := by
 unfold M.scalar_made at h0
 refine f_enter (n := 38) Try.func55 rfl (by simp) hI rfl rfl rfl fun tm hS => ?_
 clear hI
 refine c_reg fun R hR => ?_
 refine o_alloc hS (.inl rfl) rfl Fz25 (by decide) ?_; clear hS
 intro b1 tm H hS
 refine pp1 hS rfl rfl ?_; clear hS
 intro tm hS
 refine o_nil (hR _ _ ?_)
 clear hR R
 refine c_reg fun R hR => ?_
 refine pp1 hS rfl rfl ?_; clear hS
 intro tm hS
 obtain ⟨r1, hx1, h0⟩ := bindS h0
 refine o_call hS (.inl rfl) rfl (fun wm' hw1 hw2 => wk62  shape1  v1 ((hS.sel hw2).ad 1 rfl) hx1) (fun wm' res H hw' hp => ?_)
 obtain ⟨v2, hres, hI⟩ := hp
 replace hres := hres.symm; subst hres
 replace hS : S wm 38 _ H ((13, v2) :: _) ([.own (rI .i64) v2 r1] ++ _) Fr := hS.after rfl hw' hI
 clear hI hw'
 refine pp1 hS rfl rfl ?_; clear hS
 intro tm hS
 obtain ⟨l1, hx2, h0⟩ := bindS h0
 refine o_mk (r := (rI .i64)) hS (.inl rfl) rfl rfl rfl Fm23 rfl (fun _ => rfl) hx2 ?_; clear hS
 intro v3 tm H hS
 refine o_build hS (.inl rfl) rfl Fb25 rfl (.cons (cells_one (hS.one (k := 1) rfl (.inr (.inl rfl)))) (.cons (cells_one (hS.one (k := 0) rfl (.inr (.inl rfl)))) .nil)) rfl ?_; clear hS
 intro tm hS
 refine o_alloc hS (.inl rfl) rfl Fz25 (by decide) ?_; clear hS
 intro b2 tm H hS
 refine o_st (k := 0) hS (.inl rfl) rfl rfl rfl Fs25 rfl rfl (all_cons rfl (all_cons (hS.one (k := 2) rfl (.inr (.inl rfl))) (all_cons (hS.one (k := 1) rfl (.inr (.inl rfl))) all_nil))) rfl ?_; clear hS; try clear H
 intro H hS
 refine o_nil (hR _ _ ?_)
 clear hR R
 refine c_seqS ?_
 refine cr2 hS rfl rfl rfl rfl ?_; clear hS
 intro tm hS
 obtain ⟨k1, hw1, h0⟩ := bindS h0
 refine wpC.block ?_
 refine c_loop (I := fun (s : Int × (List Int)) tm H => match (generalizing := false) s with | (t1, l2) => S wm 38 tm H [(2, .func (.func gfn2) #[] gcap2), (6, .pointer (some ⟨b1, 0, none⟩)), (8, .pointer (some ⟨b2, 0, none⟩)), (17, .int .i64 n1), (18, .int .i64 t1)] (.box b1 [.bool false, (.slice none 0 0), (.slice none 0 0)] :: .box b2 [.bool false, v2, v3] :: .own (rI .i64) v2 r1 :: .own (rI .i64) v3 l2 :: E) Fr) hw1 (by change S wm 38 _ _ _ _ Fr; exact hS.keep (k5 rfl rfl rfl rfl rfl) (fun hI => (((((hI.pull 1 rfl).pull 2 rfl).pull 2 rfl).pull 3 rfl).sub (sc (sc (sc (sc (sd sr)))))))) ?_
 clear hS
 intro s1 tm H c1 hS h1 hq1
 obtain ⟨t1, l2⟩ := s1
 change S wm 38 tm H [(2, .func (.func gfn2) #[] gcap2), (6, .pointer (some ⟨b1, 0, none⟩)), (8, .pointer (some ⟨b2, 0, none⟩)), (17, .int .i64 n1), (18, .int .i64 t1)] (.box b1 [.bool false, (.slice none 0 0), (.slice none 0 0)] :: .box b2 [.bool false, v2, v3] :: .own (rI .i64) v2 r1 :: .own (rI .i64) v3 l2 :: E) Fr at hS
 refine cr1 hS rfl rfl ?_; clear hS
 intro tm hS
 refine c_seqS ?_
 refine c_cond hS rfl (fun hc => ?_) (fun hc => ?_)
 ·replace h1 := iteT hc h1
  refine wpC.skip ?_
  refine c_seqS ?_
  refine wpC.block ?_
  refine cr2 hS rfl rfl rfl rfl ?_; clear hS
  intro tm hS
  refine c_reg fun R hR => ?_
  refine pp2 hS rfl rfl rfl rfl ?_; clear hS
  intro tm hS
  obtain ⟨⟨r2, r3⟩, hx3, h1⟩ := bindS h1
  refine o_call hS (.inl rfl) rfl (fun wm' hw1 hw2 => hf t1  ((hS.sel hw2).adAll hE (fun e he => List.mem_cons_of_mem _ (List.mem_cons_of_mem _ (List.mem_cons_of_mem _ (List.mem_cons_of_mem _ (he)))))) hx3) (fun wm' res H hw' hp => ?_)
  obtain ⟨hres, hI⟩ := hp
  replace hres := hres.symm; subst hres
  replace hS : S wm 38 _ H ((24, .tuple #[.int .i64 r2, .int .i64 r3]) :: _) ([] ++ _) Fr := hS.after rfl hw' hI
  clear hI hw'
  refine pp5 hS rfl rfl rfl rfl rfl rfl rfl rfl rfl rfl ?_; clear hS
  intro tm hS
  refine o_nil (hR _ _ ?_)
  clear hR R
  refine c_seqS ?_
  refine cr2 hS rfl rfl rfl rfl ?_; clear hS
  intro tm hS
  refine c_cond hS rfl (fun hc => ?_) (fun hc => ?_)
  ·replace h1 := iteT hc h1
   refine c_reg fun R hR => ?_
   refine o_build hS (.inl rfl) rfl Fb25 rfl .nil rfl ?_; clear hS
   intro tm hS
   refine pp1 hS rfl rfl ?_; clear hS
   intro tm hS
   refine o_st (k := 0) hS (.inl rfl) rfl rfl rfl Fs25 rfl rfl (all_cons rfl (all_cons rfl (all_cons rfl all_nil))) rfl ?_; clear hS; try clear H
   intro H hS
   refine pp1 hS rfl rfl ?_; clear hS
   intro tm hS
   refine o_nil (hR _ _ ?_)
   clear hR R
   refine wpC.ret ?_
   obtain rfl := Option.some.inj h1
   obtain rfl := hq1 _ rfl
   refine And.intro rfl ?_
   obtain rfl := leave h0
   replace hS := hS.nilOwn (rI .i64)
   replace hS := hS.nilOwn (rI .i64)
   refine Exists.intro _ (And.intro (rs_cellA (k := 2) hS rfl rfl (.inl rfl) Fu25 rfl Fs25 rfl (rs_tmp hS rfl rs_nil)) ?_)
   have hI := hS.inv
   exact ⟨(.slice none 0 0), (.slice none 0 0), rfl, (((hI.pull 0 rfl).pull 1 rfl).take 2)⟩
  ·replace h1 := iteF hc h1
   refine wpC.skip ?_
   refine c_reg1 fun R hR => ?_
   refine pp1 hS rfl rfl ?_; clear hS
   intro tm hS
   refine o_ld1 (k := 1) hS (.inl rfl) rfl rfl rfl (.inl rfl) Fu23 rfl rfl ?_; clear hS
   intro tm hS
   refine pp2 hS rfl rfl rfl rfl ?_; clear hS
   intro tm hS
   obtain ⟨y1, hx4, h1⟩ := bindS h1
   refine o_ixA (k := 3) (r := (rI .i64)) hS (.inl rfl) rfl rfl rfl rfl (.inr (.inl rfl)) Fu23 Fs2 hx4 ?_; clear hS
   intro tm hS
   obtain ⟨l3, hx5, h1⟩ := bindS h1
   refine o_stE (k := 3) (r := (rI .i64)) hS (.inl rfl) rfl rfl rfl Fs2 rfl rfl (rd_flat fun _ => rfl) hx5 ?_; clear hS; try clear H
   intro H hS
   refine o_nil (hR _ _ ?_)
   clear hR R
   refine cs2 hS rfl rfl rfl rfl ?_; clear hS
   intro tm hS
   obtain rfl := Option.some.inj h1
   refine ⟨_, rfl, ?_⟩
   change S wm 38 _ _ _ _ Fr; exact hS.keep (k5 rfl rfl rfl rfl rfl) (fun hI => (hI.sub (sc (sc (sc (sc sr))))))
 ·replace h1 := iteF hc h1
  refine wpC.exit ?_
  refine seqX ?_
  obtain rfl := Option.some.inj h1
  obtain rfl := hq1 _ rfl
  refine And.intro rfl (blk_eq ?_)
  replace h0 := joinN h0
  refine c_reg fun R hR => ?_
  refine o_ldA (k := 1) hS (.inl rfl) rfl rfl rfl (.inl rfl) Fu25 rfl Fs25 rfl ?_; clear hS
  intro tm hS
  refine o_st (k := 0) hS (.inl rfl) rfl rfl rfl Fs25 rfl rfl (all_cons rfl (all_cons (hS.one (k := 2) rfl (.inr (.inl rfl))) (all_cons (hS.one (k := 3) rfl (.inr (.inl rfl))) all_nil))) rfl ?_; clear hS; try clear H
  intro H hS
  refine pp1 hS rfl rfl ?_; clear hS
  intro tm hS
  refine o_nil (hR _ _ ?_)
  clear hR R
  refine wpC.ret ?_
  obtain rfl := Option.some.inj h0
  refine Exists.intro _ (And.intro (rs_cellA (k := 0) hS rfl rfl (.inl rfl) Fu25 rfl Fs25 rfl (rs_tmp hS rfl rs_nil)) ?_)
  have hI := hS.inv
  exact ⟨v2, v3, rfl, (hI.sub (sd (sd (sc (sc sn)))))⟩
end Go.Proofs.Ytblgdjpeedgnoaa.overInner
