/- OverLast: walks of the code: the run of each function comes to what its plain function says. -/
import Derived.Test.YtblgdjpeedgnoaaWOverLasta
set_option maxHeartbeats 4000000
set_option linter.unusedVariables false
set_option linter.unusedSimpArgs false
set_option maxRecDepth 100000
open Go Go.Am Go.Proofs
namespace Go.Proofs.Ytblgdjpeedgnoaa.overLast
variable {ora : FuncId → Bool}
theorem wk36 {wm : Nat} {H : AHeap} {Fr : List Ent}  (s1 : (List Int)) (axis1 : Int)  (v1 : Value) (hI : Kn wm H [.fz (rI .i64) v1 s1] Fr) {r : Int × Int × Int × Bool} (h0 : M.shape_Split s1 axis1 = some r) :
  wpF Try.prog ora wm 36 [v1, .int .i64 axis1] H (fun res H => res = .tuple #[.int .i64 r.1, .int .i64 r.2.1, .int .i64 r.2.2.1, .bool r.2.2.2] ∧ Kn wm H [] Fr) := by
 unfold M.shape_Split at h0
 refine f_enter (n := 34) Try.func36 rfl (by simp) hI rfl rfl rfl fun tm hS => ?_
 clear hI
 refine cr4 hS rfl rfl rfl rfl rfl rfl rfl rfl ?_; clear hS
 intro tm hS
 refine c_seqS ?_
 refine c_reg fun R hR => ?_
 refine pp3 hS rfl rfl rfl rfl rfl rfl ?_; clear hS
 intro tm hS
 obtain ⟨c1, hc1⟩ : ∃ x : Bool, x = ((decide (axis1 < 0)) || (decide (axis1 ≥ (s1.length : Int)))) := ⟨_, rfl⟩
 refine o_cutN 5 (J := fun tm H => S wm 34 tm H [(15, .bool c1), (0, v1), (1, .int .i64 axis1)] [.fz (rI .i64) v1 s1] Fr) ?_ ?_
 ·rcases Bool.eq_false_or_eq_true (decide (axis1 < 0)) with hg1 | hg1
  ·refine o_skip hS rfl rfl rfl hg1 ?_; clear hS
   intro tm hS
   refine o_skip hS rfl rfl rfl hg1 ?_; clear hS
   intro tm hS
   refine o_skip hS rfl rfl rfl hg1 ?_; clear hS
   intro tm hS
   refine o_skip hS rfl rfl rfl hg1 ?_; clear hS
   intro tm hS
   refine o_pickT hS (.inl rfl) rfl rfl hg1 rfl ?_; clear hS
   intro tm hS
   have hc1 : c1 = true := hc1.trans (by rw [hg1]; first | rfl | simp)
   subst hc1
   exact o_nil (hS.keep (k3 rfl rfl rfl) (fun hI => (hI.sub (sc sn))))
  ·refine o_pure hS (.inr ⟨_, _, _, _, rfl, rfl, rfl, hg1⟩) rfl rfl ?_; clear hS
   intro tm hS
   refine o_pure hS (.inr ⟨_, _, _, _, rfl, rfl, rfl, hg1⟩) rfl rfl ?_; clear hS
   intro tm hS
   refine o_len (k := 0) (r := (rI .i64)) hS (.inr ⟨_, _, _, _, rfl, rfl, rfl, hg1⟩) rfl rfl rfl (.inl rfl) Fu22 rfl ?_; clear hS
   intro tm hS
   refine o_pure hS (.inr ⟨_, _, _, _, rfl, rfl, rfl, hg1⟩) rfl rfl ?_; clear hS
   intro tm hS
   refine o_pickF hS (.inl rfl) rfl rfl hg1 rfl ?_; clear hS
   intro tm hS
   have hc1 : c1 = (decide (axis1 ≥ (s1.length : Int))) := hc1.trans (by rw [hg1]; first | rfl | simp)
   subst hc1
   exact o_nil (hS.keep (k3 rfl rfl rfl) (fun hI => (hI.sub (sc sn))))
 intro tm H hS
 subst hc1
 refine pp1 hS rfl rfl ?_; clear hS
 intro tm hS
 obtain ⟨c2, hc2, h0⟩ := bindS h0
 refine o_cutN 4 (J := fun tm H => S wm 34 tm H [(20, .bool c2), (0, v1), (1, .int .i64 axis1)] [.fz (rI .i64) v1 s1] Fr) ?_ ?_
 ·rcases Bool.eq_false_or_eq_true ((decide (axis1 < 0)) || (decide (axis1 ≥ (s1.length : Int)))) with hg2 | hg2
  ·replace hc2 := iteT hg2 hc2
   refine o_skip hS rfl rfl rfl hg2 ?_; clear hS
   intro tm hS
   refine o_skip hS rfl rfl rfl hg2 ?_; clear hS
   intro tm hS
   refine o_skip hS rfl rfl rfl hg2 ?_; clear hS
   intro tm hS
   refine o_pickT hS (.inl rfl) rfl rfl hg2 rfl ?_; clear hS
   intro tm hS
   obtain rfl := Option.some.inj hc2
   exact o_nil (hS.keep (k3 rfl rfl rfl) (fun hI => (hI.sub (sc sn))))
  ·replace hc2 := iteF hg2 hc2
   refine o_pure hS (.inr ⟨_, _, _, _, rfl, rfl, rfl, hg2⟩) rfl rfl ?_; clear hS
   intro tm hS
   obtain ⟨r1, hx1, hc2⟩ := bindS hc2
   refine o_call hS (.inr ⟨_, _, _, _, rfl, rfl, rfl, hg2⟩) rfl (fun wm' hw1 hw2 => wk68  s1  v1 ((hS.sel hw2).ad 0 rfl) hx1) (fun wm' res H hw' hp => ?_)
   obtain ⟨hres, hI⟩ := hp
   replace hres := hres.symm; subst hres
   replace hS : S wm 34 _ H ((18, .bool r1) :: _) ([] ++ _) Fr := hS.after rfl hw' hI
   clear hI hw'
   refine o_pure hS (.inr ⟨_, _, _, _, rfl, rfl, rfl, hg2⟩) rfl rfl ?_; clear hS
   intro tm hS
   refine o_pickF hS (.inl rfl) rfl rfl hg2 rfl ?_; clear hS
   intro tm hS
   obtain rfl := Option.some.inj hc2
   exact o_nil (hS.keep (k3 rfl rfl rfl) (fun hI => (hI.sub (sc sn))))
 intro tm H hS
 refine o_nil (hR _ _ ?_)
 clear hR R
 refine c_cond hS rfl (fun hc => ?_) (fun hc => ?_)
 ·replace h0 := iteT hc h0
  refine cr4 hS rfl rfl rfl rfl rfl rfl rfl rfl ?_; clear hS
  intro tm hS
  refine wpC.ret ?_
  obtain rfl := Option.some.inj h0
  refine Exists.intro _ (And.intro (rs_tmp hS rfl (rs_tmp hS rfl (rs_tmp hS rfl (rs_tmp hS rfl rs_nil)))) ?_)
  have hI := hS.inv
  exact ⟨rfl, (hI.sub sn)⟩
 ·replace h0 := iteF hc h0
  refine wpC.skip ?_
  refine c_reg fun R hR => ?_
  refine pp2 hS rfl rfl rfl rfl ?_; clear hS
  intro tm hS
  obtain ⟨l1, hx2, h0⟩ := bindS h0
  refine o_sl (k := 0) (r := (rI .i64)) hS (.inl rfl) rfl rfl rfl Fu22 Fs3 rfl rfl hx2 ?_; clear hS
  intro v2 tm hS
  obtain ⟨r2, hx3, h0⟩ := bindS h0
  refine o_call hS (.inl rfl) rfl (fun wm' hw1 hw2 => wk67  l1  v2 ((hS.sel hw2).ad 0 rfl) hx3) (fun wm' res H hw' hp => ?_)
  obtain ⟨hres, hI⟩ := hp
  replace hres := hres.symm; subst hres
  replace hS : S wm 34 _ H ((24, .int .i64 r2) :: _) ([] ++ _) Fr := hS.after rfl hw' hI
  clear hI hw'
  refine pp2 hS rfl rfl rfl rfl ?_; clear hS
  intro tm hS
  obtain ⟨y1, hx4, h0⟩ := bindS h0
  refine o_ixA (k := 1) (r := (rI .i64)) hS (.inl rfl) rfl rfl rfl rfl (.inl rfl) Fu22 Fs3 hx4 ?_; clear hS
  intro tm hS
  refine o_ldF (r := (rI .i64)) (k := 1) hS (.inl rfl) rfl rfl rfl (.inl rfl) hx4 Fu3 rfl (flat_I _) rfl ?_; clear hS
  intro tm hS
  refine pp3 hS rfl rfl rfl rfl rfl rfl ?_; clear hS
  intro tm hS
  obtain ⟨l2, hx5, h0⟩ := bindS h0
  refine o_sl (k := 1) (r := (rI .i64)) hS (.inl rfl) rfl rfl rfl Fu22 Fs3 rfl rfl hx5 ?_; clear hS
  intro v3 tm hS
  obtain ⟨r3, hx6, h0⟩ := bindS h0
  refine o_call hS (.inl rfl) rfl (fun wm' hw1 hw2 => wk67  l2  v3 ((hS.sel hw2).ad 0 rfl) hx6) (fun wm' res H hw' hp => ?_)
  obtain ⟨hres, hI⟩ := hp
  replace hres := hres.symm; subst hres
  replace hS : S wm 34 _ H ((33, .int .i64 r3) :: _) ([] ++ _) Fr := hS.after rfl hw' hI
  clear hI hw'
  refine pp4 hS rfl rfl rfl rfl rfl rfl rfl rfl ?_; clear hS
  intro tm hS
  refine o_nil (hR _ _ ?_)
  clear hR R
  refine wpC.ret ?_
  obtain rfl := Option.some.inj h0
  refine Exists.intro _ (And.intro (rs_tmp hS rfl (rs_tmp hS rfl (rs_tmp hS rfl (rs_tmp hS rfl rs_nil)))) ?_)
  have hI := hS.inv
  exact ⟨rfl, (hI.sub sn)⟩
theorem wk40 {wm : Nat} {H : AHeap} {Fr : List Ent}  (v1 : Val) (k1 : Int)  (v2 : Value) (v3 : Value) (hI : Kn wm H [.fz (rI .i64) v2 v1.Shape, .fz (rI .i64) v3 v1.Data] Fr) {r : Am.Item} (h0 : M.over_at v1 k1 = some r) :
  wpF Try.prog ora wm 40 [.agg #[.bool v1.Char, v2, v3], .int .i64 k1] H (fun res H => res = .agg #[.int .i64 r.n, .bool r.char] ∧ Kn wm H [] Fr) := by
 unfold M.over_at at h0
 refine f_enter (n := 13) Try.func40 rfl (by simp) hI rfl rfl rfl fun tm hS => ?_
 clear hI
 refine c_reg fun R hR => ?_
 refine o_box hS (.inl rfl) rfl rfl rfl (all_cons rfl (all_cons (hS.one (k := 0) rfl (.inl rfl)) (all_cons (hS.one (k := 1) rfl (.inl rfl)) all_nil))) ?_; clear hS
 intro b1 tm H hS
 refine o_alloc hS (.inl rfl) rfl Fz72 (by decide) ?_; clear hS
 intro b2 tm H hS
 refine o_nil (hR _ _ ?_)
 clear hR R
 refine c_reg fun R hR => ?_
 refine pp1 hS rfl rfl ?_; clear hS
 intro tm hS
 refine o_ld1 (k := 1) hS (.inl rfl) rfl rfl rfl (.inl rfl) Fu23 rfl rfl ?_; clear hS
 intro tm hS
 refine pp1 hS rfl rfl ?_; clear hS
 intro tm hS
 obtain ⟨y1, hx1, h0⟩ := bindS h0
 refine o_ixA (k := 3) (r := (rI .i64)) hS (.inl rfl) rfl rfl rfl rfl (.inl rfl) Fu23 Fs2 hx1 ?_; clear hS
 intro tm hS
 refine o_ldF (r := (rI .i64)) (k := 3) hS (.inl rfl) rfl rfl rfl (.inl rfl) hx1 Fu2 rfl (flat_I _) rfl ?_; clear hS
 intro tm hS
 refine pp1 hS rfl rfl ?_; clear hS
 intro tm hS
 refine o_ld1 (k := 1) hS (.inl rfl) rfl rfl rfl (.inl rfl) Fu4 rfl rfl ?_; clear hS
 intro tm hS
 refine o_build hS (.inl rfl) rfl Fb72 rfl (.cons rfl (.cons rfl .nil)) rfl ?_; clear hS
 intro tm hS
 refine o_st (k := 0) hS (.inl rfl) rfl rfl rfl Fs72 rfl rfl (all_cons rfl (all_cons rfl all_nil)) rfl ?_; clear hS; try clear H
 intro H hS
 refine o_nil (hR _ _ ?_)
 clear hR R
 refine wpC.ret ?_
 obtain rfl := Option.some.inj h0
 refine Exists.intro _ (And.intro (rs_cellA (k := 0) hS rfl rfl (.inl rfl) Fu72 rfl Fs72 rfl rs_nil) ?_)
 have hI := hS.inv
 exact ⟨rfl, (hI.sub sn)⟩
theorem wk38 {wm : Nat} {H : AHeap} {Fr : List Ent}  (v1 : Val) (n1 : Int) (behind1 : Int) (i1 : Int) (k1 : Int)  (v2 : Value) (v3 : Value) (hI : Kn wm H [.fz (rI .i64) v2 v1.Shape, .fz (rI .i64) v3 v1.Data] Fr) {r : (List Am.Item)} (h0 : M.over_row v1 n1 behind1 i1 k1 = some r) :
  wpF Try.prog ora wm 38 [.agg #[.bool v1.Char, v2, v3], .int .i64 n1, .int .i64 behind1, .int .i64 i1, .int .i64 k1] H (fun res H => ∃ v5, res = v5 ∧ Kn wm H [.own rItem v5 r] Fr) := by
 unfold M.over_row at h0
 refine f_enter (n := 36) Try.func38 rfl (by simp) hI rfl rfl rfl fun tm hS => ?_
 clear hI
 refine c_reg fun R hR => ?_
 refine o_box hS (.inl rfl) rfl rfl rfl (all_cons rfl (all_cons (hS.one (k := 0) rfl (.inl rfl)) (all_cons (hS.one (k := 1) rfl (.inl rfl)) all_nil))) ?_; clear hS
 intro b1 tm H hS
 refine pp1 hS rfl rfl ?_; clear hS
 intro tm hS
 refine o_nil (hR _ _ ?_)
 clear hR R
 refine c_reg fun R hR => ?_
 refine pp1 hS rfl rfl ?_; clear hS
 intro tm hS
 obtain ⟨l1, hx1, h0⟩ := bindS h0
 refine o_mkW (r := rItem) (z := (Am.Item.mk 0 false)) hS (.inl rfl) rfl rfl rfl Fm75 rfl (fun _ => rfl) hx1 ?_; clear hS
 intro v4 tm H hS
 refine pp1 hS rfl rfl ?_; clear hS
 intro tm hS
 refine o_nil (hR _ _ ?_)
 clear hR R
 refine c_seqS ?_
 refine c_reg fun R hR => ?_
 refine pp1 hS rfl rfl ?_; clear hS
 intro tm hS
 refine o_len (k := 0) (r := rItem) hS (.inl rfl) rfl rfl rfl (.inr (.inl rfl)) Fu75 rfl ?_; clear hS
 intro tm hS
 refine pp1 hS rfl rfl ?_; clear hS
 intro tm hS
 refine o_nil (hR _ _ ?_)
 clear hR R
 obtain ⟨k2, hw1, h0⟩ := bindS h0
 refine wpC.block ?_
 refine c_loop (I := fun (s : Int × (List Am.Item)) tm H => match (generalizing := false) s with | (t1, l2) => S wm 36 tm H [(1, .int .i64 n1), (2, .int .i64 behind1), (3, .int .i64 i1), (4, .int .i64 k1), (5, .pointer (some ⟨b1, 0, none⟩)), (11, v4), (16, .int .i64 (l1.length : Int)), (17, .int .i64 t1)] [.box b1 [.bool v1.Char, v2, v3], .fz (rI .i64) v2 v1.Shape, .fz (rI .i64) v3 v1.Data, .own rItem v4 l2] Fr) hw1 (by change S wm 36 _ _ _ _ Fr; exact hS.keep (k8 rfl rfl rfl rfl rfl rfl rfl rfl) (fun hI => (((((hI.pull 0 rfl).pull 3 rfl).pull 3 rfl).pull 3 rfl).take 4))) ?_
 clear hS
 intro s1 tm H c1 hS h1 hq1
 obtain ⟨t1, l2⟩ := s1
 change S wm 36 tm H [(1, .int .i64 n1), (2, .int .i64 behind1), (3, .int .i64 i1), (4, .int .i64 k1), (5, .pointer (some ⟨b1, 0, none⟩)), (11, v4), (16, .int .i64 (l1.length : Int)), (17, .int .i64 t1)] [.box b1 [.bool v1.Char, v2, v3], .fz (rI .i64) v2 v1.Shape, .fz (rI .i64) v3 v1.Data, .own rItem v4 l2] Fr at hS
 refine cr1 hS rfl rfl ?_; clear hS
 intro tm hS
 refine c_seqS ?_
 refine c_cond hS rfl (fun hc => ?_) (fun hc => ?_)
 ·replace h1 := iteT hc h1
  refine wpC.skip ?_
  refine c_seqS ?_
  refine wpC.block ?_
  refine cr2 hS rfl rfl rfl rfl ?_; clear hS
  intro tm hS
  refine c_reg1 fun R hR => ?_
  refine pp2 hS rfl rfl rfl rfl ?_; clear hS
  intro tm hS
  refine o_ldA (k := 0) hS (.inl rfl) rfl rfl rfl (.inl rfl) Fu25 rfl Fs25 rfl ?_; clear hS
  intro tm hS
  refine pp6 hS rfl rfl rfl rfl rfl rfl rfl rfl rfl rfl rfl rfl ?_; clear hS
  intro tm hS
  refine pp3 hS rfl rfl rfl rfl rfl rfl ?_; clear hS
  intro tm hS
  obtain ⟨r1, hx2, h1⟩ := bindS h1
  refine o_call hS (.inl rfl) rfl (fun wm' hw1 hw2 => wk40  v1 (IntKind.i64.wrap ((IntKind.i64.wrap ((IntKind.i64.wrap ((IntKind.i64.wrap (i1 * n1)) + t1)) * behind1)) + k1))  v2 v3 (((hS.sel hw2).ad 2 rfl).ad 1 rfl) hx2) (fun wm' res H hw' hp => ?_)
  obtain ⟨hres, hI⟩ := hp
  replace hres := hres.symm; subst hres
  replace hS : S wm 36 _ H ((32, .agg #[.int .i64 r1.n, .bool r1.char]) :: _) ([] ++ _) Fr := hS.after rfl hw' hI
  clear hI hw'
  obtain ⟨y1, hx3, h1⟩ := bindS h1
  refine o_ixA (k := 3) (r := rItem) hS (.inl rfl) rfl rfl rfl rfl (.inr (.inl rfl)) Fu75 Fs72 hx3 ?_; clear hS
  intro tm hS
  obtain ⟨l3, hx4, h1⟩ := bindS h1
  refine o_stE (k := 3) (r := rItem) hS (.inl rfl) rfl rfl rfl Fs72 rfl rfl (rd_flat fun _ => rfl) hx4 ?_; clear hS; try clear H
  intro H hS
  refine o_nil (hR _ _ ?_)
  clear hR R
  refine cs2 hS rfl rfl rfl rfl ?_; clear hS
  intro tm hS
  obtain rfl := Option.some.inj h1
  refine ⟨_, rfl, ?_⟩
  change S wm 36 _ _ _ _ Fr; exact hS.keep (k8 rfl rfl rfl rfl rfl rfl rfl rfl) (fun hI => (hI.sub (sc (sc (sc (sc sn))))))
 ·replace h1 := iteF hc h1
  refine wpC.exit ?_
  refine seqX ?_
  obtain rfl := Option.some.inj h1
  obtain rfl := hq1 _ rfl
  refine And.intro rfl (blk_eq ?_)
  replace h0 := joinN h0
  refine cr2 hS rfl rfl rfl rfl ?_; clear hS
  intro tm hS
  refine wpC.ret ?_
  obtain rfl := Option.some.inj h0
  refine Exists.intro _ (And.intro (rs_tmp hS rfl rs_nil) ?_)
  have hI := hS.inv
  exact ⟨v4, rfl, (hI.sub (sd (sd (sd (sc sn)))))⟩
theorem wk37 {wm : Nat} {H : AHeap} {Fr : List Ent} (ho100 : ora 100 = false) (fn1 : ByteArray) (f1 : (Option ByteArray)) (l1 : (List Am.Item))  (v1 : Value) (v2 : Value) (hI : Kn wm H [.el (rClo 87) [v1] f1, .fz rItem v2 l1] Fr) {r : Am.Item × Int} (h0 : M.over_reduced fn1 f1 l1 = some r) :
  wpF Try.prog ora wm 37 [.string fn1, v1, v2] H (fun res H => res = .tuple #[.agg #[.int .i64 r.1.n, .bool r.1.char], .int .i64 r.2] ∧ Kn wm H [] Fr) := by
 unfold M.over_reduced at h0
 refine f_enter (n := 52) Try.func37 rfl (by simp) hI rfl rfl rfl fun tm hS => ?_
 clear hI
 refine c_reg fun R hR => ?_
 refine o_alloc hS (.inl rfl) rfl Fz72 (by decide) ?_; clear hS
 intro b1 tm H hS
 refine pp1 hS rfl rfl ?_; clear hS
 intro tm hS
 refine o_nil (hR _ _ ?_)
 clear hR R
 refine c_seqS ?_
 refine c_reg fun R hR => ?_
 refine pp1 hS rfl rfl ?_; clear hS
 intro tm hS
 refine o_len (k := 2) (r := rItem) hS (.inl rfl) rfl rfl rfl (.inl rfl) Fu75 rfl ?_; clear hS
 intro tm hS
 refine pp1 hS rfl rfl ?_; clear hS
 intro tm hS
 refine o_nil (hR _ _ ?_)
 clear hR R
 refine c_cond hS rfl (fun hc => ?_) (fun hc => ?_)
 ·replace h0 := iteT hc h0
  refine c_reg fun R hR => ?_
  refine pp1 hS rfl rfl ?_; clear hS
  intro tm hS
  obtain ⟨⟨r1, r2⟩, hx1, h0⟩ := bindS h0
  refine o_call hS (.inl rfl) rfl (fun wm' hw1 hw2 => wk69  fn1   (hS.sel hw2) hx1) (fun wm' res H hw' hp => ?_)
  obtain ⟨hres, hI⟩ := hp
  replace hres := hres.symm; subst hres
  replace hS : S wm 52 _ H ((18, .tuple #[.int .i64 r1, .int .i64 r2]) :: _) ([] ++ _) Fr := hS.after rfl hw' hI
  clear hI hw'
  refine pp5 hS rfl rfl rfl rfl rfl rfl rfl rfl rfl rfl ?_; clear hS
  intro tm hS
  refine o_nil (hR _ _ ?_)
  clear hR R
  refine c_reg fun R hR => ?_
  refine pp1 hS rfl rfl ?_; clear hS
  intro tm hS
  refine o_build hS (.inl rfl) rfl Fb72 rfl (.cons rfl .nil) rfl ?_; clear hS
  intro tm hS
  refine pp1 hS rfl rfl ?_; clear hS
  intro tm hS
  refine o_st (k := 0) hS (.inl rfl) rfl rfl rfl Fs72 rfl rfl (all_cons rfl (all_cons rfl all_nil)) rfl ?_; clear hS; try clear H
  intro H hS
  refine pp1 hS rfl rfl ?_; clear hS
  intro tm hS
  refine o_nil (hR _ _ ?_)
  clear hR R
  refine wpC.ret ?_
  obtain rfl := Option.some.inj h0
  refine Exists.intro _ (And.intro (rs_cellA (k := 0) hS rfl rfl (.inl rfl) Fu72 rfl Fs72 rfl (rs_tmp hS rfl rs_nil)) ?_)
  have hI := hS.inv
  exact ⟨rfl, (hI.sub sn)⟩
 ·replace h0 := iteF hc h0
  refine wpC.skip ?_
  refine c_reg fun R hR => ?_
  refine pp2 hS rfl rfl rfl rfl ?_; clear hS
  intro tm hS
  refine o_len (k := 2) (r := rItem) hS (.inl rfl) rfl rfl rfl (.inl rfl) Fu75 rfl ?_; clear hS
  intro tm hS
  refine pp1 hS rfl rfl ?_; clear hS
  intro tm hS
  obtain ⟨y1, hx2, h0⟩ := bindS h0
  refine o_ixA (k := 2) (r := rItem) hS (.inl rfl) rfl rfl rfl rfl (.inl rfl) Fu75 Fs72 hx2 ?_; clear hS
  intro tm hS
  refine o_ldFA (r := rItem) (k := 2) hS (.inl rfl) rfl rfl rfl (.inl rfl) hx2 Fu72 rfl Fs72 rfl flat_Item ?_; clear hS
  intro tm hS
  refine o_alloc hS (.inl rfl) rfl Fz72 (by decide) ?_; clear hS
  intro b2 tm H hS
  refine o_st (k := 0) hS (.inl rfl) rfl rfl rfl Fs72 rfl rfl (all_cons rfl (all_cons rfl all_nil)) rfl ?_; clear hS; try clear H
  intro H hS
  refine o_nil (hR _ _ ?_)
  clear hR R
  refine c_seqS ?_
  refine c_reg fun R hR => ?_
  refine pp1 hS rfl rfl ?_; clear hS
  intro tm hS
  refine o_len (k := 3) (r := rItem) hS (.inl rfl) rfl rfl rfl (.inl rfl) Fu75 rfl ?_; clear hS
  intro tm hS
  refine pp2 hS rfl rfl rfl rfl ?_; clear hS
  intro tm hS
  refine o_nil (hR _ _ ?_)
  clear hR R
  obtain ⟨k1, hw1, h0⟩ := bindS h0
  refine wpC.block ?_
  refine c_loop (I := fun (s : Int × Int × Bool) tm H => match (generalizing := false) s with | (i1, n1, char1) => S wm 52 tm H [(1, v1), (2, v2), (6, .pointer (some ⟨b1, 0, none⟩)), (10, .pointer (some ⟨b2, 0, none⟩)), (11, .int .i64 i1)] [.box b1 [.int .i64 0, .bool false], .box b2 [.int .i64 n1, .bool char1], .el (rClo 87) [v1] f1, .fz rItem v2 l1] Fr) hw1 (by change S wm 52 _ _ _ _ Fr; exact hS.keep (k5 rfl rfl rfl rfl rfl) (fun hI => (((((hI.pull 3 rfl).pull 3 rfl).pull 2 rfl).pull 3 rfl).take 4))) ?_
  clear hS
  intro s1 tm H c1 hS h1 hq1
  obtain ⟨i1, n1, char1⟩ := s1
  change S wm 52 tm H [(1, v1), (2, v2), (6, .pointer (some ⟨b1, 0, none⟩)), (10, .pointer (some ⟨b2, 0, none⟩)), (11, .int .i64 i1)] [.box b1 [.int .i64 0, .bool false], .box b2 [.int .i64 n1, .bool char1], .el (rClo 87) [v1] f1, .fz rItem v2 l1] Fr at hS
  refine c_seqS ?_
  refine cr2 hS rfl rfl rfl rfl ?_; clear hS
  intro tm hS
  refine c_cond hS rfl (fun hc => ?_) (fun hc => ?_)
  ·replace h1 := iteT hc h1
   refine wpC.skip ?_
   refine c_seqS ?_
   refine wpC.block ?_
   refine cr1 hS rfl rfl ?_; clear hS
   intro tm hS
   refine c_reg fun R hR => ?_
   refine pp3 hS rfl rfl rfl rfl rfl rfl ?_; clear hS
   intro tm hS
   obtain ⟨y2, hx3, h1⟩ := bindS h1
   refine o_ixA (k := 3) (r := rItem) hS (.inl rfl) rfl rfl rfl rfl (.inl rfl) Fu75 Fs72 hx3 ?_; clear hS
   intro tm hS
   refine o_ldFA (r := rItem) (k := 3) hS (.inl rfl) rfl rfl rfl (.inl rfl) hx3 Fu72 rfl Fs72 rfl flat_Item ?_; clear hS
   intro tm hS
   refine o_ldA (k := 1) hS (.inl rfl) rfl rfl rfl (.inl rfl) Fu72 rfl Fs72 rfl ?_; clear hS
   intro tm hS
   obtain ⟨fn2, hx4, h1⟩ := bindS h1
   obtain ⟨b3, hv1, hS⟩ := hS.unclo (k := 2) rfl hx4
   obtain ⟨⟨r3, r4⟩, hx5, h1⟩ := bindS h1
   refine o_call hS (.inl rfl) (by subst hv1; rfl) (fun wm' hw1 hw2 => wk87 ho100 y2 (Am.Item.mk n1 char1) fn2  b3 ((hS.sel hw2).adB 0 rfl) hx5) (fun wm' res H hw' hp => ?_)
   obtain ⟨hres, hI⟩ := hp
   replace hres := hres.symm; subst hres
   replace hS : S wm 52 _ H ((44, .tuple #[.agg #[.int .i64 r3.n, .bool r3.char], .int .i64 r4]) :: _) ([] ++ _) Fr := hS.after rfl hw' hI
   clear hI hw'
   refine pp3 hS rfl rfl rfl rfl rfl rfl ?_; clear hS
   intro tm hS
   refine o_st (k := 2) hS (.inl rfl) rfl rfl rfl Fs72 rfl rfl (all_cons rfl (all_cons rfl all_nil)) rfl ?_; clear hS; try clear H
   intro H hS
   refine pp1 hS rfl rfl ?_; clear hS
   intro tm hS
   refine o_nil (hR _ _ ?_)
   clear hR R
   refine cr2 hS rfl rfl rfl rfl ?_; clear hS
   intro tm hS
   refine c_cond hS rfl (fun hc => ?_) (fun hc => ?_)
   ·replace h1 := iteT hc h1
    refine c_reg fun R hR => ?_
    refine o_build hS (.inl rfl) rfl Fb72 rfl .nil rfl ?_; clear hS
    intro tm hS
    refine pp1 hS rfl rfl ?_; clear hS
    intro tm hS
    refine o_st (k := 1) hS (.inl rfl) rfl rfl rfl Fs72 rfl rfl (all_cons rfl (all_cons rfl all_nil)) rfl ?_; clear hS; try clear H
    intro H hS
    refine pp1 hS rfl rfl ?_; clear hS
    intro tm hS
    refine o_nil (hR _ _ ?_)
    clear hR R
    refine wpC.ret ?_
    obtain rfl := Option.some.inj h1
    obtain rfl := hq1 _ rfl
    refine And.intro rfl ?_
    obtain rfl := leave h0
    refine Exists.intro _ (And.intro (rs_cellA (k := 1) hS rfl rfl (.inl rfl) Fu72 rfl Fs72 rfl (rs_tmp hS rfl rs_nil)) ?_)
    have hI := hS.inv
    exact ⟨rfl, (hI.sub sn)⟩
   ·replace h1 := iteF hc h1
    refine wpC.skip ?_
    refine cs3 hS rfl rfl rfl rfl rfl rfl ?_; clear hS
    intro tm hS
    obtain rfl := Option.some.inj h1
    refine ⟨_, rfl, ?_⟩
    change S wm 52 _ _ _ _ Fr; exact hS.keep (k5 rfl rfl rfl rfl rfl) (fun hI => (hI.sub (sd (sc (sc (sc (sc sn)))))))
  ·replace h1 := iteF hc h1
   refine wpC.exit ?_
   refine seqX ?_
   obtain rfl := Option.some.inj h1
   obtain rfl := hq1 _ rfl
   refine And.intro rfl (blk_eq ?_)
   replace h0 := joinN h0
   refine c_reg fun R hR => ?_
   refine o_ldA (k := 1) hS (.inl rfl) rfl rfl rfl (.inl rfl) Fu72 rfl Fs72 rfl ?_; clear hS
   intro tm hS
   refine o_st (k := 0) hS (.inl rfl) rfl rfl rfl Fs72 rfl rfl (all_cons rfl (all_cons rfl all_nil)) rfl ?_; clear hS; try clear H
   intro H hS
   refine pp1 hS rfl rfl ?_; clear hS
   intro tm hS
   refine o_nil (hR _ _ ?_)
   clear hR R
   refine wpC.ret ?_
   obtain rfl := Option.some.inj h0
   refine Exists.intro _ (And.intro (rs_cellA (k := 0) hS rfl rfl (.inl rfl) Fu72 rfl Fs72 rfl (rs_tmp hS rfl rs_nil)) ?_)
   have hI := hS.inv
   exact ⟨rfl, (hI.sub sn)⟩
theorem wk25 {wm : Nat} {H : AHeap} {Fr : List Ent} (ho100 : ora 100 = false) (fn1 : ByteArray) (v1 : Val) (axis1 : Int)  (v2 : Value) (v3 : Value) (hI : Kn wm H [.fz (rI .i64) v2 v1.Shape, .fz (rI .i64) v3 v1.Data] Fr) {r : Val × Int} (h0 : M.over_Scan fn1 v1 axis1 = some r) :
  wpF Try.prog ora wm 25 [.string fn1, .agg #[.bool v1.Char, v2, v3], .int .i64 axis1] H (fun res H => ∃ v12 v13, res = .tuple #[.agg #[.bool r.1.Char, v12, v13], .int .i64 r.2] ∧ Kn wm H [.own (rI .i64) v12 r.1.Shape, .own (rI .i64) v13 r.1.Data] Fr) := by
 unfold M.over_Scan at h0
 refine f_enter (n := 136) Try.func25 rfl (by simp) hI rfl rfl rfl fun tm hS => ?_
 clear hI
 refine c_reg fun R hR => ?_
 refine o_box hS (.inl rfl) rfl rfl rfl (all_cons rfl (all_cons (hS.one (k := 0) rfl (.inl rfl)) (all_cons (hS.one (k := 1) rfl (.inl rfl)) all_nil))) ?_; clear hS
 intro b1 tm H hS
 refine o_alloc hS (.inl rfl) rfl Fz25 (by decide) ?_; clear hS
 intro b2 tm H hS
 refine pp1 hS rfl rfl ?_; clear hS
 intro tm hS
 refine o_nil (hR _ _ ?_)
 clear hR R
 refine c_reg fun R hR => ?_
 refine pp1 hS rfl rfl ?_; clear hS
 intro tm hS
 refine o_ldA (k := 1) hS (.inl rfl) rfl rfl rfl (.inl rfl) Fu25 rfl Fs25 rfl ?_; clear hS
 intro tm hS
 refine o_lit (r := rVal) (l := [v1]) hS (.inl rfl) rfl Fl103 rfl rfl rfl (.cons rfl .nil) rfl rfl (ri_3 (rd_Val ⟨2, rfl⟩ ⟨3, rfl⟩) ri_nil) rfl ?_; clear hS
 intro v4 tm H hS
 replace hS := hS.litFrz (k := 0) rfl
 obtain ⟨⟨r1, r2⟩, hx1, h0⟩ := bindS h0
 refine o_call hS (.inl rfl) rfl (fun wm' hw1 hw2 => wk31  fn1 ([v1])  v4 ((hS.sel hw2).ad 0 rfl) hx1) (fun wm' res H hw' hp => ?_)
 obtain ⟨v5, hres, hI⟩ := hp
 replace hres := hres.symm; subst hres
 replace hS : S wm 136 _ H ((26, .tuple #[v5, .int .i64 r2]) :: _) ([.el (rClo 87) [v5] r1] ++ _) Fr := hS.after rfl hw' hI
 clear hI hw'
 refine pp5 hS rfl rfl rfl rfl rfl rfl rfl rfl rfl rfl ?_; clear hS
 intro tm hS
 refine o_nil (hR _ _ ?_)
 clear hR R
 refine c_seqS ?_
 refine cr2 hS rfl rfl rfl rfl ?_; clear hS
 intro tm hS
 refine c_cond hS rfl (fun hc => ?_) (fun hc => ?_)
 ·replace h0 := iteT hc h0
  refine c_reg fun R hR => ?_
  refine o_build hS (.inl rfl) rfl Fb25 rfl .nil rfl ?_; clear hS
  intro tm hS
  refine pp1 hS rfl rfl ?_; clear hS
  intro tm hS
  refine o_st (k := 2) hS (.inl rfl) rfl rfl rfl Fs25 rfl rfl (all_cons rfl (all_cons rfl (all_cons rfl all_nil))) rfl ?_; clear hS; try clear H
  intro H hS
  refine pp1 hS rfl rfl ?_; clear hS
  intro tm hS
  refine o_nil (hR _ _ ?_)
  clear hR R
  refine wpC.ret ?_
  obtain rfl := Option.some.inj h0
  replace hS := hS.nilOwn (rI .i64)
  replace hS := hS.nilOwn (rI .i64)
  refine Exists.intro _ (And.intro (rs_cellA (k := 4) hS rfl rfl (.inl rfl) Fu25 rfl Fs25 rfl (rs_tmp hS rfl rs_nil)) ?_)
  have hI := hS.inv
  exact ⟨(.slice none 0 0), (.slice none 0 0), rfl, (((hI.pull 0 rfl).pull 1 rfl).take 2)⟩
 ·replace h0 := iteF hc h0
  refine wpC.skip ?_
  refine c_seqS ?_
  refine c_reg fun R hR => ?_
  refine pp1 hS rfl rfl ?_; clear hS
  intro tm hS
  refine o_ld1 (k := 3) hS (.inl rfl) rfl rfl rfl (.inl rfl) Fu22 rfl rfl ?_; clear hS
  intro tm hS
  refine o_len (k := 4) (r := (rI .i64)) hS (.inl rfl) rfl rfl rfl (.inl rfl) Fu22 rfl ?_; clear hS
  intro tm hS
  refine pp1 hS rfl rfl ?_; clear hS
  intro tm hS
  refine o_nil (hR _ _ ?_)
  clear hR R
  refine c_cond hS rfl (fun hc => ?_) (fun hc => ?_)
  ·replace h0 := iteT hc h0
   refine c_reg fun R hR => ?_
   refine o_ldA (k := 3) hS (.inl rfl) rfl rfl rfl (.inl rfl) Fu25 rfl Fs25 rfl ?_; clear hS
   intro tm hS
   obtain ⟨r3, hx2, h0⟩ := bindS h0
   refine o_call hS (.inl rfl) rfl (fun wm' hw1 hw2 => wk32  v1  v2 v3 (((hS.sel hw2).ad 5 rfl).ad 4 rfl) hx2) (fun wm' res H hw' hp => ?_)
   obtain ⟨v6, v7, hres, hI⟩ := hp
   replace hres := hres.symm; subst hres
   replace hS : S wm 136 _ H ((38, .agg #[.bool r3.Char, v6, v7]) :: _) ([.own (rI .i64) v6 r3.Shape, .own (rI .i64) v7 r3.Data] ++ _) Fr := hS.after rfl hw' hI
   clear hI hw'
   refine o_st (k := 4) hS (.inl rfl) rfl rfl rfl Fs25 rfl rfl (all_cons rfl (all_cons (hS.one (k := 0) rfl (.inr (.inl rfl))) (all_cons (hS.one (k := 1) rfl (.inr (.inl rfl))) all_nil))) rfl ?_; clear hS; try clear H
   intro H hS
   refine pp1 hS rfl rfl ?_; clear hS
   intro tm hS
   refine o_nil (hR _ _ ?_)
   clear hR R
   refine wpC.ret ?_
   obtain rfl := Option.some.inj h0
   refine Exists.intro _ (And.intro (rs_cellA (k := 4) hS rfl rfl (.inl rfl) Fu25 rfl Fs25 rfl (rs_tmp hS rfl rs_nil)) ?_)
   have hI := hS.inv
   exact ⟨v6, v7, rfl, (hI.sub (sc (sc sn)))⟩
  ·replace h0 := iteF hc h0
   refine wpC.skip ?_
   refine c_reg fun R hR => ?_
   refine o_ldA (k := 3) hS (.inl rfl) rfl rfl rfl (.inl rfl) Fu25 rfl Fs25 rfl ?_; clear hS
   intro tm hS
   refine pp1 hS rfl rfl ?_; clear hS
   intro tm hS
   obtain ⟨⟨r4, r5⟩, hx3, h0⟩ := bindS h0
   refine o_call hS (.inl rfl) rfl (fun wm' hw1 hw2 => wk33  v1 axis1  v2 v3 (((hS.sel hw2).ad 5 rfl).ad 4 rfl) hx3) (fun wm' res H hw' hp => ?_)
   obtain ⟨hres, hI⟩ := hp
   replace hres := hres.symm; subst hres
   replace hS : S wm 136 _ H ((42, .tuple #[.int .i64 r4, .bool r5]) :: _) ([] ++ _) Fr := hS.after rfl hw' hI
   clear hI hw'
   refine pp5 hS rfl rfl rfl rfl rfl rfl rfl rfl rfl rfl ?_; clear hS
   intro tm hS
   refine o_nil (hR _ _ ?_)
   clear hR R
   refine c_seqS ?_
   refine cr2 hS rfl rfl rfl rfl ?_; clear hS
   intro tm hS
   refine c_cond hS rfl (fun hc => ?_) (fun hc => ?_)
   ·replace h0 := iteT hc h0
    refine c_reg fun R hR => ?_
    refine o_build hS (.inl rfl) rfl Fb25 rfl .nil rfl ?_; clear hS
    intro tm hS
    refine o_st (k := 2) hS (.inl rfl) rfl rfl rfl Fs25 rfl rfl (all_cons rfl (all_cons rfl (all_cons rfl all_nil))) rfl ?_; clear hS; try clear H
    intro H hS
    refine pp1 hS rfl rfl ?_; clear hS
    intro tm hS
    refine o_nil (hR _ _ ?_)
    clear hR R
    refine wpC.ret ?_
    obtain rfl := Option.some.inj h0
    replace hS := hS.nilOwn (rI .i64)
    replace hS := hS.nilOwn (rI .i64)
    refine Exists.intro _ (And.intro (rs_cellA (k := 4) hS rfl rfl (.inl rfl) Fu25 rfl Fs25 rfl (rs_tmp hS rfl rs_nil)) ?_)
    have hI := hS.inv
    exact ⟨(.slice none 0 0), (.slice none 0 0), rfl, (((hI.pull 0 rfl).pull 1 rfl).take 2)⟩
   ·replace h0 := iteF hc h0
    refine wpC.skip ?_
    refine c_reg fun R hR => ?_
    refine pp1 hS rfl rfl ?_; clear hS
    intro tm hS
    refine o_ld1 (k := 3) hS (.inl rfl) rfl rfl rfl (.inl rfl) Fu22 rfl rfl ?_; clear hS
    intro tm hS
    refine pp1 hS rfl rfl ?_; clear hS
    intro tm hS
    obtain ⟨⟨r6, r7, r8, r9⟩, hx4, h0⟩ := bindS h0
    refine o_call hS (.inl rfl) rfl (fun wm' hw1 hw2 => wk36  v1.Shape r4  v2 ((hS.sel hw2).ad 4 rfl) hx4) (fun wm' res H hw' hp => ?_)
    obtain ⟨hres, hI⟩ := hp
    replace hres := hres.symm; subst hres
    replace hS : S wm 136 _ H ((52, .tuple #[.int .i64 r6, .int .i64 r7, .int .i64 r8, .bool r9]) :: _) ([] ++ _) Fr := hS.after rfl hw' hI
    clear hI hw'
    refine pp6 hS rfl rfl rfl rfl rfl rfl rfl rfl rfl rfl rfl rfl ?_; clear hS
    intro tm hS
    refine pp3 hS rfl rfl rfl rfl rfl rfl ?_; clear hS
    intro tm hS
    refine o_nil (hR _ _ ?_)
    clear hR R
    refine c_reg fun R hR => ?_
    refine o_ldA (k := 3) hS (.inl rfl) rfl rfl rfl (.inl rfl) Fu25 rfl Fs25 rfl ?_; clear hS
    intro tm hS
    obtain ⟨r10, hx5, h0⟩ := bindS h0
    refine o_call hS (.inl rfl) rfl (fun wm' hw1 hw2 => wk32  v1  v2 v3 (((hS.sel hw2).ad 5 rfl).ad 4 rfl) hx5) (fun wm' res H hw' hp => ?_)
    obtain ⟨v8, v9, hres, hI⟩ := hp
    replace hres := hres.symm; subst hres
    replace hS : S wm 136 _ H ((58, .agg #[.bool r10.Char, v8, v9]) :: _) ([.own (rI .i64) v8 r10.Shape, .own (rI .i64) v9 r10.Data] ++ _) Fr := hS.after rfl hw' hI
    clear hI hw'
    refine o_alloc hS (.inl rfl) rfl Fz25 (by decide) ?_; clear hS
    intro b3 tm H hS
    refine o_st (k := 0) hS (.inl rfl) rfl rfl rfl Fs25 rfl rfl (all_cons rfl (all_cons (hS.one (k := 1) rfl (.inr (.inl rfl))) (all_cons (hS.one (k := 2) rfl (.inr (.inl rfl))) all_nil))) rfl ?_; clear hS; try clear H
    intro H hS
    refine o_nil (hR _ _ ?_)
    clear hR R
    refine c_seqS ?_
    refine wpC.block ?_
    refine c_reg fun R hR => ?_
    refine pp1 hS rfl rfl ?_; clear hS
    intro tm hS
    refine o_ld1 (k := 6) hS (.inl rfl) rfl rfl rfl (.inl rfl) Fu23 rfl rfl ?_; clear hS
    intro tm hS
    refine o_len (k := 8) (r := (rI .i64)) hS (.inl rfl) rfl rfl rfl (.inl rfl) Fu23 rfl ?_; clear hS
    intro tm hS
    refine pp2 hS rfl rfl rfl rfl ?_; clear hS
    intro tm hS
    refine o_nil (hR _ _ ?_)
    clear hR R
    refine c_cond hS rfl (fun hc => ?_) (fun hc => ?_)
    ·replace h0 := iteT hc h0
     refine c_reg fun R hR => ?_
     refine o_ldA (k := 0) hS (.inl rfl) rfl rfl rfl (.inl rfl) Fu25 rfl Fs25 rfl ?_; clear hS
     intro tm hS
     refine o_st (k := 5) hS (.inl rfl) rfl rfl rfl Fs25 rfl rfl (all_cons rfl (all_cons (hS.one (k := 1) rfl (.inr (.inl rfl))) (all_cons (hS.one (k := 2) rfl (.inr (.inl rfl))) all_nil))) rfl ?_; clear hS; try clear H
     intro H hS
     refine pp1 hS rfl rfl ?_; clear hS
     intro tm hS
     refine o_nil (hR _ _ ?_)
     clear hR R
     refine wpC.ret ?_
     obtain rfl := Option.some.inj h0
     refine Exists.intro _ (And.intro (rs_cellA (k := 5) hS rfl rfl (.inl rfl) Fu25 rfl Fs25 rfl (rs_tmp hS rfl rs_nil)) ?_)
     have hI := hS.inv
     exact ⟨v8, v9, rfl, (hI.sub (sd (sc (sc sn))))⟩
    ·replace h0 := iteF hc h0
     refine c_reg fun R hR => ?_
     refine pp6 hS rfl rfl rfl rfl rfl rfl rfl rfl rfl rfl rfl rfl ?_; clear hS
     intro tm hS
     refine pp5 hS rfl rfl rfl rfl rfl rfl rfl rfl rfl rfl ?_; clear hS
     intro tm hS
     refine o_nil (hR _ _ ?_)
     clear hR R
     refine c_cond hS rfl (fun hc => ?_) (fun hc => ?_)
     ·replace h0 := iteT hc h0
      refine c_reg fun R hR => ?_
      refine o_build hS (.inl rfl) rfl Fb25 rfl .nil rfl ?_; clear hS
      intro tm hS
      refine o_st (k := 5) hS (.inl rfl) rfl rfl rfl Fs25 rfl rfl (all_cons rfl (all_cons rfl (all_cons rfl all_nil))) rfl ?_; clear hS; try clear H
      intro H hS
      refine pp1 hS rfl rfl ?_; clear hS
      intro tm hS
      refine o_nil (hR _ _ ?_)
      clear hR R
      refine wpC.ret ?_
      obtain rfl := Option.some.inj h0
      replace hS := hS.nilOwn (rI .i64)
      replace hS := hS.nilOwn (rI .i64)
      refine Exists.intro _ (And.intro (rs_cellA (k := 7) hS rfl rfl (.inl rfl) Fu25 rfl Fs25 rfl (rs_tmp hS rfl rs_nil)) ?_)
      have hI := hS.inv
      exact ⟨(.slice none 0 0), (.slice none 0 0), rfl, (((hI.pull 0 rfl).pull 1 rfl).take 2)⟩
     ·replace h0 := iteF hc h0
      refine c_reg fun R hR => ?_
      refine pp1 hS rfl rfl ?_; clear hS
      intro tm hS
      refine o_ld1 (k := 6) hS (.inl rfl) rfl rfl rfl (.inl rfl) Fu4 rfl rfl ?_; clear hS
      intro tm hS
      refine pp1 hS rfl rfl ?_; clear hS
      intro tm hS
      obtain ⟨c1, hc1⟩ : ∃ x : Bool, x = (v1.Char && (decide (r7 > 1))) := ⟨_, rfl⟩
      refine o_cutN 3 (J := fun tm H => S wm 136 tm H [(83, .bool c1), (0, .string fn1), (4, .pointer (some ⟨b1, 0, none⟩)), (6, .pointer (some ⟨b2, 0, none⟩)), (8, v5), (11, .int .i64 r6), (12, .int .i64 r7), (13, .int .i64 r8), (15, .pointer (some ⟨b3, 0, none⟩))] [.box b3 [.bool r10.Char, v8, v9], .own (rI .i64) v8 r10.Shape, .own (rI .i64) v9 r10.Data, .el (rClo 87) [v5] r1, .box b2 [.bool false, (.slice none 0 0), (.slice none 0 0)], .box b1 [.bool v1.Char, v2, v3], .fz (rI .i64) v2 v1.Shape, .fz (rI .i64) v3 v1.Data] Fr) ?_ ?_
      ·rcases Bool.eq_false_or_eq_true v1.Char with hg1 | hg1
       ·refine o_pure hS (.inr ⟨_, _, _, _, rfl, rfl, rfl, hg1⟩) rfl rfl ?_; clear hS
        intro tm hS
        refine o_pure hS (.inr ⟨_, _, _, _, rfl, rfl, rfl, hg1⟩) rfl rfl ?_; clear hS
        intro tm hS
        refine o_pickT hS (.inl rfl) rfl rfl hg1 rfl ?_; clear hS
        intro tm hS
        have hc1 : c1 = (decide (r7 > 1)) := hc1.trans (by rw [hg1]; first | rfl | simp)
        subst hc1
        exact o_nil (hS.keep (k9 rfl rfl rfl rfl rfl rfl rfl rfl rfl) (fun hI => (hI.sub (sc (sc (sc (sc (sd (sc (sc (sc (sc sn))))))))))))
       ·refine o_skip hS rfl rfl rfl hg1 ?_; clear hS
        intro tm hS
        refine o_skip hS rfl rfl rfl hg1 ?_; clear hS
        intro tm hS
        refine o_pickF hS (.inl rfl) rfl rfl hg1 rfl ?_; clear hS
        intro tm hS
        have hc1 : c1 = false := hc1.trans (by rw [hg1]; first | rfl | simp)
        subst hc1
        exact o_nil (hS.keep (k9 rfl rfl rfl rfl rfl rfl rfl rfl rfl) (fun hI => (hI.sub (sc (sc (sc (sc (sd (sc (sc (sc (sc sn))))))))))))
      intro tm H hS
      subst hc1
      refine pp1 hS rfl rfl ?_; clear hS
      intro tm hS
      refine o_nil (hR _ _ ?_)
      clear hR R
      refine c_cond hS rfl (fun hc => ?_) (fun hc => ?_)
      ·replace h0 := iteT hc h0
       refine c_reg fun R hR => ?_
       refine o_build hS (.inl rfl) rfl Fb25 rfl .nil rfl ?_; clear hS
       intro tm hS
       refine o_st (k := 4) hS (.inl rfl) rfl rfl rfl Fs25 rfl rfl (all_cons rfl (all_cons rfl (all_cons rfl all_nil))) rfl ?_; clear hS; try clear H
       intro H hS
       refine pp1 hS rfl rfl ?_; clear hS
       intro tm hS
       refine o_nil (hR _ _ ?_)
       clear hR R
       refine wpC.ret ?_
       obtain rfl := Option.some.inj h0
       replace hS := hS.nilOwn (rI .i64)
       replace hS := hS.nilOwn (rI .i64)
       refine Exists.intro _ (And.intro (rs_cellA (k := 6) hS rfl rfl (.inl rfl) Fu25 rfl Fs25 rfl (rs_tmp hS rfl rs_nil)) ?_)
       have hI := hS.inv
       exact ⟨(.slice none 0 0), (.slice none 0 0), rfl, (((hI.pull 0 rfl).pull 1 rfl).take 2)⟩
      ·replace h0 := iteF hc h0
       refine wpC.skip ?_
       refine c_seqS ?_
       refine cr2 hS rfl rfl rfl rfl ?_; clear hS
       intro tm hS
       obtain ⟨k1, hw1, h0⟩ := bindS h0
       refine wpC.block ?_
       refine c_loop (I := fun (s : Int × (List Int)) tm H => match (generalizing := false) s with | (t1, l1) => S wm 136 tm H [(0, .string fn1), (4, .pointer (some ⟨b1, 0, none⟩)), (6, .pointer (some ⟨b2, 0, none⟩)), (8, v5), (12, .int .i64 r7), (13, .int .i64 r8), (15, .pointer (some ⟨b3, 0, none⟩)), (85, .int .i64 r6), (86, .int .i64 t1)] [.box b1 [.bool v1.Char, v2, v3], .box b2 [.bool false, (.slice none 0 0), (.slice none 0 0)], .box b3 [.bool r10.Char, v8, v9], .fz (rI .i64) v2 v1.Shape, .fz (rI .i64) v3 v1.Data, .el (rClo 87) [v5] r1, .own (rI .i64) v8 r10.Shape, .own (rI .i64) v9 l1] Fr) hw1 (by change S wm 136 _ _ _ _ Fr; exact hS.keep (k9 rfl rfl rfl rfl rfl rfl rfl rfl rfl) (fun hI => (hI.pick [5, 4, 0, 6, 7, 3, 1, 2] rfl))) ?_
       clear hS
       intro s1 tm H c2 hS h11 hq11
       obtain ⟨t1, l1⟩ := s1
       change S wm 136 tm H [(0, .string fn1), (4, .pointer (some ⟨b1, 0, none⟩)), (6, .pointer (some ⟨b2, 0, none⟩)), (8, v5), (12, .int .i64 r7), (13, .int .i64 r8), (15, .pointer (some ⟨b3, 0, none⟩)), (85, .int .i64 r6), (86, .int .i64 t1)] [.box b1 [.bool v1.Char, v2, v3], .box b2 [.bool false, (.slice none 0 0), (.slice none 0 0)], .box b3 [.bool r10.Char, v8, v9], .fz (rI .i64) v2 v1.Shape, .fz (rI .i64) v3 v1.Data, .el (rClo 87) [v5] r1, .own (rI .i64) v8 r10.Shape, .own (rI .i64) v9 l1] Fr at hS
       refine cr1 hS rfl rfl ?_; clear hS
       intro tm hS
       refine c_seqS ?_
       refine c_cond hS rfl (fun hc => ?_) (fun hc => ?_)
       ·replace h11 := iteT hc h11
        refine wpC.skip ?_
        refine c_seqS ?_
        refine wpC.block ?_
        refine cr2 hS rfl rfl rfl rfl ?_; clear hS
        intro tm hS
        refine cr2 hS rfl rfl rfl rfl ?_; clear hS
        intro tm hS
        obtain ⟨k2, hw2, h11⟩ := bindS h11
        refine wpC.block ?_
        refine c_loop (I := fun (s : Int × (List Int)) tm H => match (generalizing := false) s with | (t2, l2) => S wm 136 tm H [(0, .string fn1), (4, .pointer (some ⟨b1, 0, none⟩)), (6, .pointer (some ⟨b2, 0, none⟩)), (8, v5), (12, .int .i64 r7), (13, .int .i64 r8), (15, .pointer (some ⟨b3, 0, none⟩)), (16, .int .i64 t1), (85, .int .i64 r6), (86, .int .i64 t1), (89, .int .i64 r8), (90, .int .i64 t2)] [.box b1 [.bool v1.Char, v2, v3], .box b2 [.bool false, (.slice none 0 0), (.slice none 0 0)], .box b3 [.bool r10.Char, v8, v9], .fz (rI .i64) v2 v1.Shape, .fz (rI .i64) v3 v1.Data, .el (rClo 87) [v5] r1, .own (rI .i64) v8 r10.Shape, .own (rI .i64) v9 l2] Fr) hw2 (by change S wm 136 _ _ _ _ Fr; exact hS.keep (k12 rfl rfl rfl rfl rfl rfl rfl rfl rfl rfl rfl rfl) (fun hI => (hI.sub (sc (sc (sc (sc (sc (sc (sc (sc sn))))))))))) ?_
        clear hS
        intro s2 tm H c3 hS h19 hq19
        obtain ⟨t2, l2⟩ := s2
        change S wm 136 tm H [(0, .string fn1), (4, .pointer (some ⟨b1, 0, none⟩)), (6, .pointer (some ⟨b2, 0, none⟩)), (8, v5), (12, .int .i64 r7), (13, .int .i64 r8), (15, .pointer (some ⟨b3, 0, none⟩)), (16, .int .i64 t1), (85, .int .i64 r6), (86, .int .i64 t1), (89, .int .i64 r8), (90, .int .i64 t2)] [.box b1 [.bool v1.Char, v2, v3], .box b2 [.bool false, (.slice none 0 0), (.slice none 0 0)], .box b3 [.bool r10.Char, v8, v9], .fz (rI .i64) v2 v1.Shape, .fz (rI .i64) v3 v1.Data, .el (rClo 87) [v5] r1, .own (rI .i64) v8 r10.Shape, .own (rI .i64) v9 l2] Fr at hS
        refine cr1 hS rfl rfl ?_; clear hS
        intro tm hS
        refine c_seqS ?_
        refine c_cond hS rfl (fun hc => ?_) (fun hc => ?_)
        ·replace h19 := iteT hc h19
         refine wpC.skip ?_
         refine c_seqS ?_
         refine wpC.block ?_
         refine cr2 hS rfl rfl rfl rfl ?_; clear hS
         intro tm hS
         refine c_reg fun R hR => ?_
         refine o_ldA (k := 0) hS (.inl rfl) rfl rfl rfl (.inl rfl) Fu25 rfl Fs25 rfl ?_; clear hS
         intro tm hS
         refine pp4 hS rfl rfl rfl rfl rfl rfl rfl rfl ?_; clear hS
         intro tm hS
         obtain ⟨r11, hx6, h19⟩ := bindS h19
         refine o_call hS (.inl rfl) rfl (fun wm' hw1 hw2 => wk38  v1 r7 r8 t1 t2  v2 v3 (((hS.sel hw2).ad 4 rfl).ad 3 rfl) hx6) (fun wm' res H hw' hp => ?_)
         obtain ⟨v10, hres, hI⟩ := hp
         replace hres := hres.symm; subst hres
         replace hS : S wm 136 _ H ((98, v10) :: _) ([.own rItem v10 r11] ++ _) Fr := hS.after rfl hw' hI
         clear hI hw'
         refine pp1 hS rfl rfl ?_; clear hS
         intro tm hS
         refine o_nil (hR _ _ ?_)
         clear hR R
         refine c_reg fun R hR => ?_
         refine pp1 hS rfl rfl ?_; clear hS
         intro tm hS
         refine o_len (k := 0) (r := rItem) hS (.inl rfl) rfl rfl rfl (.inr (.inl rfl)) Fu75 rfl ?_; clear hS
         intro tm hS
         refine pp1 hS rfl rfl ?_; clear hS
         intro tm hS
         refine o_nil (hR _ _ ?_)
         clear hR R
         replace hS := hS.frz (k := 0) rfl
         obtain ⟨k3, hw3, h19⟩ := bindS h19
         refine wpC.block ?_
         refine c_loop (I := fun (s : Int × (List Int)) tm H => match (generalizing := false) s with | (t3, l3) => S wm 136 tm H [(0, .string fn1), (4, .pointer (some ⟨b1, 0, none⟩)), (6, .pointer (some ⟨b2, 0, none⟩)), (8, v5), (12, .int .i64 r7), (13, .int .i64 r8), (15, .pointer (some ⟨b3, 0, none⟩)), (16, .int .i64 t1), (17, .int .i64 t2), (18, v10), (85, .int .i64 r6), (86, .int .i64 t1), (89, .int .i64 r8), (90, .int .i64 t2), (100, .int .i64 (r11.length : Int)), (101, .int .i64 t3)] [.box b1 [.bool v1.Char, v2, v3], .box b2 [.bool false, (.slice none 0 0), (.slice none 0 0)], .box b3 [.bool r10.Char, v8, v9], .fz (rI .i64) v2 v1.Shape, .fz (rI .i64) v3 v1.Data, .el (rClo 87) [v5] r1, .own (rI .i64) v8 r10.Shape, .own (rI .i64) v9 l3, .fz rItem v10 r11] Fr) hw3 (by change S wm 136 _ _ _ _ Fr; exact hS.keep (ka_cons rfl (ka_cons rfl (ka_cons rfl (ka_cons rfl (ka_cons rfl (ka_cons rfl (ka_cons rfl (ka_cons rfl (ka_cons rfl (ka_cons rfl (ka_cons rfl (ka_cons rfl (ka_cons rfl (ka_cons rfl (ka_cons rfl (ka_cons rfl ka_nil)))))))))))))))) (fun hI => (hI.pick [1, 2, 3, 4, 5, 6, 7, 8, 0] rfl))) ?_
         clear hS
         intro s3 tm H c4 hS h21 hq21
         obtain ⟨t3, l3⟩ := s3
         change S wm 136 tm H [(0, .string fn1), (4, .pointer (some ⟨b1, 0, none⟩)), (6, .pointer (some ⟨b2, 0, none⟩)), (8, v5), (12, .int .i64 r7), (13, .int .i64 r8), (15, .pointer (some ⟨b3, 0, none⟩)), (16, .int .i64 t1), (17, .int .i64 t2), (18, v10), (85, .int .i64 r6), (86, .int .i64 t1), (89, .int .i64 r8), (90, .int .i64 t2), (100, .int .i64 (r11.length : Int)), (101, .int .i64 t3)] [.box b1 [.bool v1.Char, v2, v3], .box b2 [.bool false, (.slice none 0 0), (.slice none 0 0)], .box b3 [.bool r10.Char, v8, v9], .fz (rI .i64) v2 v1.Shape, .fz (rI .i64) v3 v1.Data, .el (rClo 87) [v5] r1, .own (rI .i64) v8 r10.Shape, .own (rI .i64) v9 l3, .fz rItem v10 r11] Fr at hS
         refine cr1 hS rfl rfl ?_; clear hS
         intro tm hS
         refine c_seqS ?_
         refine c_cond hS rfl (fun hc => ?_) (fun hc => ?_)
         ·replace h21 := iteT hc h21
          refine wpC.skip ?_
          refine c_seqS ?_
          refine wpC.block ?_
          refine cr2 hS rfl rfl rfl rfl ?_; clear hS
          intro tm hS
          refine c_reg fun R hR => ?_
          refine pp5 hS rfl rfl rfl rfl rfl rfl rfl rfl rfl rfl ?_; clear hS
          intro tm hS
          obtain ⟨l4, hx7, h21⟩ := bindS h21
          refine o_sl (k := 8) (r := rItem) hS (.inl rfl) rfl rfl rfl Fu75 Fs72 rfl rfl hx7 ?_; clear hS
          intro v11 tm hS
          obtain ⟨⟨r12, r13⟩, hx8, h21⟩ := bindS h21
          refine o_call hS (.inl rfl) rfl (fun wm' hw1 hw2 => wk37 ho100 fn1 r1 l4  v5 v11 (((hS.sel hw2).ad 0 rfl).adE 6 rfl) hx8) (fun wm' res H hw' hp => ?_)
          obtain ⟨hres, hI⟩ := hp
          replace hres := hres.symm; subst hres
          replace hS : S wm 136 _ H ((111, .tuple #[.agg #[.int .i64 r12.n, .bool r12.char], .int .i64 r13]) :: _) ([] ++ _) Fr := hS.after rfl hw' hI
          clear hI hw'
          refine pp3 hS rfl rfl rfl rfl rfl rfl ?_; clear hS
          intro tm hS
          refine o_alloc hS (.inl rfl) rfl Fz72 (by decide) ?_; clear hS
          intro b4 tm H hS
          refine o_st (k := 0) hS (.inl rfl) rfl rfl rfl Fs72 rfl rfl (all_cons rfl (all_cons rfl all_nil)) rfl ?_; clear hS; try clear H
          intro H hS
          refine pp1 hS rfl rfl ?_; clear hS
          intro tm hS
          refine o_nil (hR _ _ ?_)
          clear hR R
          refine c_seqS ?_
          refine cr2 hS rfl rfl rfl rfl ?_; clear hS
          intro tm hS
          refine c_cond hS rfl (fun hc => ?_) (fun hc => ?_)
          ·replace h21 := iteT hc h21
           refine c_reg fun R hR => ?_
           refine o_build hS (.inl rfl) rfl Fb25 rfl .nil rfl ?_; clear hS
           intro tm hS
           refine pp1 hS rfl rfl ?_; clear hS
           intro tm hS
           refine o_st (k := 3) hS (.inl rfl) rfl rfl rfl Fs25 rfl rfl (all_cons rfl (all_cons rfl (all_cons rfl all_nil))) rfl ?_; clear hS; try clear H
           intro H hS
           refine pp1 hS rfl rfl ?_; clear hS
           intro tm hS
           refine o_nil (hR _ _ ?_)
           clear hR R
           refine wpC.ret ?_
           obtain rfl := Option.some.inj h21
           obtain rfl := hq21 _ rfl
           refine And.intro rfl ?_
           obtain rfl := leave h19
           obtain rfl := hq19 _ rfl
           refine And.intro rfl ?_
           obtain rfl := leave h11
           obtain rfl := hq11 _ rfl
           refine And.intro rfl ?_
           obtain rfl := leave h0
           replace hS := hS.nilOwn (rI .i64)
           replace hS := hS.nilOwn (rI .i64)
           refine Exists.intro _ (And.intro (rs_cellA (k := 5) hS rfl rfl (.inl rfl) Fu25 rfl Fs25 rfl (rs_tmp hS rfl rs_nil)) ?_)
           have hI := hS.inv
           exact ⟨(.slice none 0 0), (.slice none 0 0), rfl, (((hI.pull 0 rfl).pull 1 rfl).take 2)⟩
          ·replace h21 := iteF hc h21
           refine wpC.skip ?_
           refine c_reg1 fun R hR => ?_
           refine pp1 hS rfl rfl ?_; clear hS
           intro tm hS
           refine o_ld1 (k := 4) hS (.inl rfl) rfl rfl rfl (.inl rfl) Fu23 rfl rfl ?_; clear hS
           intro tm hS
           refine pp6 hS rfl rfl rfl rfl rfl rfl rfl rfl rfl rfl rfl rfl ?_; clear hS
           intro tm hS
           refine pp4 hS rfl rfl rfl rfl rfl rfl rfl rfl ?_; clear hS
           intro tm hS
           refine o_ld1 (k := 0) hS (.inl rfl) rfl rfl rfl (.inl rfl) Fu2 rfl rfl ?_; clear hS
           intro tm hS
           obtain ⟨y1, hx9, h21⟩ := bindS h21
           refine o_ixA (k := 9) (r := (rI .i64)) hS (.inl rfl) rfl rfl rfl rfl (.inr (.inl rfl)) Fu23 Fs2 hx9 ?_; clear hS
           intro tm hS
           obtain ⟨l5, hx10, h21⟩ := bindS h21
           refine o_stE (k := 9) (r := (rI .i64)) hS (.inl rfl) rfl rfl rfl Fs2 rfl rfl (rd_flat fun _ => rfl) hx10 ?_; clear hS; try clear H
           intro H hS
           refine o_nil (hR _ _ ?_)
           clear hR R
           refine cs2 hS rfl rfl rfl rfl ?_; clear hS
           intro tm hS
           obtain rfl := Option.some.inj h21
           refine ⟨_, rfl, ?_⟩
           change S wm 136 _ _ _ _ Fr; exact hS.keep (ka_cons rfl (ka_cons rfl (ka_cons rfl (ka_cons rfl (ka_cons rfl (ka_cons rfl (ka_cons rfl (ka_cons rfl (ka_cons rfl (ka_cons rfl (ka_cons rfl (ka_cons rfl (ka_cons rfl (ka_cons rfl (ka_cons rfl (ka_cons rfl ka_nil)))))))))))))))) (fun hI => (hI.sub (sd (sd (sc (sc (sc (sc (sc (sc (sc (sc (sc sn)))))))))))))
         ·replace h21 := iteF hc h21
          refine wpC.exit ?_
          refine seqX ?_
          obtain rfl := Option.some.inj h21
          obtain rfl := hq21 _ rfl
          refine And.intro rfl (blk_eq ?_)
          replace h19 := joinN h19
          refine cs2 hS rfl rfl rfl rfl ?_; clear hS
          intro tm hS
          obtain rfl := Option.some.inj h19
          refine ⟨_, rfl, ?_⟩
          change S wm 136 _ _ _ _ Fr; exact hS.keep (k12 rfl rfl rfl rfl rfl rfl rfl rfl rfl rfl rfl rfl) (fun hI => (hI.sub (sc (sc (sc (sc (sc (sc (sc (sc sn))))))))))
        ·replace h19 := iteF hc h19
         refine wpC.exit ?_
         refine seqX ?_
         obtain rfl := Option.some.inj h19
         obtain rfl := hq19 _ rfl
         refine And.intro rfl (blk_eq ?_)
         replace h11 := joinN h11
         refine cs2 hS rfl rfl rfl rfl ?_; clear hS
         intro tm hS
         obtain rfl := Option.some.inj h11
         refine ⟨_, rfl, ?_⟩
         change S wm 136 _ _ _ _ Fr; exact hS.keep (k9 rfl rfl rfl rfl rfl rfl rfl rfl rfl) (fun hI => (hI.sub (sc (sc (sc (sc (sc (sc (sc (sc sn))))))))))
       ·replace h11 := iteF hc h11
        refine wpC.exit ?_
        refine seqX ?_
        obtain rfl := Option.some.inj h11
        obtain rfl := hq11 _ rfl
        refine And.intro rfl (blk_eq ?_)
        replace h0 := joinN h0
        refine c_reg fun R hR => ?_
        refine o_ldA (k := 2) hS (.inl rfl) rfl rfl rfl (.inl rfl) Fu25 rfl Fs25 rfl ?_; clear hS
        intro tm hS
        refine o_st (k := 1) hS (.inl rfl) rfl rfl rfl Fs25 rfl rfl (all_cons rfl (all_cons (hS.one (k := 6) rfl (.inr (.inl rfl))) (all_cons (hS.one (k := 7) rfl (.inr (.inl rfl))) all_nil))) rfl ?_; clear hS; try clear H
        intro H hS
        refine pp1 hS rfl rfl ?_; clear hS
        intro tm hS
        refine o_nil (hR _ _ ?_)
        clear hR R
        refine wpC.ret ?_
        obtain rfl := Option.some.inj h0
        refine Exists.intro _ (And.intro (rs_cellA (k := 1) hS rfl rfl (.inl rfl) Fu25 rfl Fs25 rfl (rs_tmp hS rfl rs_nil)) ?_)
        have hI := hS.inv
        exact ⟨v8, v9, rfl, (hI.sub (sd (sd (sd (sd (sd (sd (sc (sc sn)))))))))⟩
theorem wk21 {wm : Nat} {H : AHeap} {Fr : List Ent}  (a1 : Val) (b1 : Val)  (v1 : Value) (v2 : Value) (v3 : Value) (v4 : Value) (hI : Kn wm H [.fz (rI .i64) v1 a1.Shape, .fz (rI .i64) v2 a1.Data, .fz (rI .i64) v3 b1.Shape, .fz (rI .i64) v4 b1.Data] Fr) {r : Bool} (h0 : M.anamnesisref02_Same a1 b1 = some r) :
  wpF Try.prog ora wm 21 [.agg #[.bool a1.Char, v1, v2], .agg #[.bool b1.Char, v3, v4]] H (fun res H => res = .bool r ∧ Kn wm H [] Fr) := by
 unfold M.anamnesisref02_Same at h0
 refine f_enter (n := 66) Try.func21 rfl (by simp) hI rfl rfl rfl fun tm hS => ?_
 clear hI
 refine c_reg fun R hR => ?_
 refine o_box hS (.inl rfl) rfl rfl rfl (all_cons rfl (all_cons (hS.one (k := 0) rfl (.inl rfl)) (all_cons (hS.one (k := 1) rfl (.inl rfl)) all_nil))) ?_; clear hS
 intro b2 tm H hS
 refine o_box hS (.inl rfl) rfl rfl rfl (all_cons rfl (all_cons (hS.one (k := 3) rfl (.inl rfl)) (all_cons (hS.one (k := 4) rfl (.inl rfl)) all_nil))) ?_; clear hS
 intro b3 tm H hS
 refine pp1 hS rfl rfl ?_; clear hS
 intro tm hS
 refine o_nil (hR _ _ ?_)
 clear hR R
 refine c_seqS ?_
 refine c_reg fun R hR => ?_
 refine pp1 hS rfl rfl ?_; clear hS
 intro tm hS
 refine o_ld1 (k := 1) hS (.inl rfl) rfl rfl rfl (.inl rfl) Fu4 rfl rfl ?_; clear hS
 intro tm hS
 refine pp1 hS rfl rfl ?_; clear hS
 intro tm hS
 refine o_ld1 (k := 0) hS (.inl rfl) rfl rfl rfl (.inl rfl) Fu4 rfl rfl ?_; clear hS
 intro tm hS
 refine pp2 hS rfl rfl rfl rfl ?_; clear hS
 intro tm hS
 obtain ⟨c1, hc1⟩ : ∃ x : Bool, x = ((!(a1.Char == b1.Char)) || ((a1.Shape.length : Int) != (b1.Shape.length : Int))) := ⟨_, rfl⟩
 refine o_cutN 8 (J := fun tm H => S wm 66 tm H [(20, .bool c1), (2, .pointer (some ⟨b2, 0, none⟩)), (3, .pointer (some ⟨b3, 0, none⟩))] [.box b3 [.bool b1.Char, v3, v4], .box b2 [.bool a1.Char, v1, v2], .fz (rI .i64) v1 a1.Shape, .fz (rI .i64) v2 a1.Data, .fz (rI .i64) v3 b1.Shape, .fz (rI .i64) v4 b1.Data] Fr) ?_ ?_
 ·rcases Bool.eq_false_or_eq_true (!(a1.Char == b1.Char)) with hg1 | hg1
  ·refine o_skip hS rfl rfl rfl hg1 ?_; clear hS
   intro tm hS
   refine o_skip hS rfl rfl rfl hg1 ?_; clear hS
   intro tm hS
   refine o_skip hS rfl rfl rfl hg1 ?_; clear hS
   intro tm hS
   refine o_skip hS rfl rfl rfl hg1 ?_; clear hS
   intro tm hS
   refine o_skip hS rfl rfl rfl hg1 ?_; clear hS
   intro tm hS
   refine o_skip hS rfl rfl rfl hg1 ?_; clear hS
   intro tm hS
   refine o_skip hS rfl rfl rfl hg1 ?_; clear hS
   intro tm hS
   refine o_pickT hS (.inl rfl) rfl rfl hg1 rfl ?_; clear hS
   intro tm hS
   have hc1 : c1 = true := hc1.trans (by rw [hg1]; first | rfl | simp)
   subst hc1
   exact o_nil (hS.keep (k3 rfl rfl rfl) (fun hI => (hI.sub (sc (sc (sc (sc (sc (sc sn)))))))))
  ·refine o_pure hS (.inr ⟨_, _, _, _, rfl, rfl, rfl, hg1⟩) rfl rfl ?_; clear hS
   intro tm hS
   refine o_ld1 (k := 1) hS (.inr ⟨_, _, _, _, rfl, rfl, rfl, hg1⟩) rfl rfl rfl (.inl rfl) Fu22 rfl rfl ?_; clear hS
   intro tm hS
   refine o_len (k := 2) (r := (rI .i64)) hS (.inr ⟨_, _, _, _, rfl, rfl, rfl, hg1⟩) rfl rfl rfl (.inl rfl) Fu22 rfl ?_; clear hS
   intro tm hS
   refine o_pure hS (.inr ⟨_, _, _, _, rfl, rfl, rfl, hg1⟩) rfl rfl ?_; clear hS
   intro tm hS
   refine o_ld1 (k := 0) hS (.inr ⟨_, _, _, _, rfl, rfl, rfl, hg1⟩) rfl rfl rfl (.inl rfl) Fu22 rfl rfl ?_; clear hS
   intro tm hS
   refine o_len (k := 4) (r := (rI .i64)) hS (.inr ⟨_, _, _, _, rfl, rfl, rfl, hg1⟩) rfl rfl rfl (.inl rfl) Fu22 rfl ?_; clear hS
   intro tm hS
   refine o_pure hS (.inr ⟨_, _, _, _, rfl, rfl, rfl, hg1⟩) rfl rfl ?_; clear hS
   intro tm hS
   refine o_pickF hS (.inl rfl) rfl rfl hg1 rfl ?_; clear hS
   intro tm hS
   have hc1 : c1 = ((a1.Shape.length : Int) != (b1.Shape.length : Int)) := hc1.trans (by rw [hg1]; first | rfl | simp)
   subst hc1
   exact o_nil (hS.keep (k3 rfl rfl rfl) (fun hI => (hI.sub (sc (sc (sc (sc (sc (sc sn)))))))))
 intro tm H hS
 subst hc1
 refine pp1 hS rfl rfl ?_; clear hS
 intro tm hS
 obtain ⟨c2, hc2⟩ : ∃ x : Bool, x = (((!(a1.Char == b1.Char)) || ((a1.Shape.length : Int) != (b1.Shape.length : Int))) || ((a1.Data.length : Int) != (b1.Data.length : Int))) := ⟨_, rfl⟩
 refine o_cutN 8 (J := fun tm H => S wm 66 tm H [(29, .bool c2), (2, .pointer (some ⟨b2, 0, none⟩)), (3, .pointer (some ⟨b3, 0, none⟩))] [.box b3 [.bool b1.Char, v3, v4], .box b2 [.bool a1.Char, v1, v2], .fz (rI .i64) v1 a1.Shape, .fz (rI .i64) v2 a1.Data, .fz (rI .i64) v3 b1.Shape, .fz (rI .i64) v4 b1.Data] Fr) ?_ ?_
 ·rcases Bool.eq_false_or_eq_true ((!(a1.Char == b1.Char)) || ((a1.Shape.length : Int) != (b1.Shape.length : Int))) with hg2 | hg2
  ·refine o_skip hS rfl rfl rfl hg2 ?_; clear hS
   intro tm hS
   refine o_skip hS rfl rfl rfl hg2 ?_; clear hS
   intro tm hS
   refine o_skip hS rfl rfl rfl hg2 ?_; clear hS
   intro tm hS
   refine o_skip hS rfl rfl rfl hg2 ?_; clear hS
   intro tm hS
   refine o_skip hS rfl rfl rfl hg2 ?_; clear hS
   intro tm hS
   refine o_skip hS rfl rfl rfl hg2 ?_; clear hS
   intro tm hS
   refine o_skip hS rfl rfl rfl hg2 ?_; clear hS
   intro tm hS
   refine o_pickT hS (.inl rfl) rfl rfl hg2 rfl ?_; clear hS
   intro tm hS
   have hc2 : c2 = true := hc2.trans (by rw [hg2]; first | rfl | simp)
   subst hc2
   exact o_nil (hS.keep (k3 rfl rfl rfl) (fun hI => (hI.sub (sc (sc (sc (sc (sc (sc sn)))))))))
  ·refine o_pure hS (.inr ⟨_, _, _, _, rfl, rfl, rfl, hg2⟩) rfl rfl ?_; clear hS
   intro tm hS
   refine o_ld1 (k := 1) hS (.inr ⟨_, _, _, _, rfl, rfl, rfl, hg2⟩) rfl rfl rfl (.inl rfl) Fu23 rfl rfl ?_; clear hS
   intro tm hS
   refine o_len (k := 3) (r := (rI .i64)) hS (.inr ⟨_, _, _, _, rfl, rfl, rfl, hg2⟩) rfl rfl rfl (.inl rfl) Fu23 rfl ?_; clear hS
   intro tm hS
   refine o_pure hS (.inr ⟨_, _, _, _, rfl, rfl, rfl, hg2⟩) rfl rfl ?_; clear hS
   intro tm hS
   refine o_ld1 (k := 0) hS (.inr ⟨_, _, _, _, rfl, rfl, rfl, hg2⟩) rfl rfl rfl (.inl rfl) Fu23 rfl rfl ?_; clear hS
   intro tm hS
   refine o_len (k := 5) (r := (rI .i64)) hS (.inr ⟨_, _, _, _, rfl, rfl, rfl, hg2⟩) rfl rfl rfl (.inl rfl) Fu23 rfl ?_; clear hS
   intro tm hS
   refine o_pure hS (.inr ⟨_, _, _, _, rfl, rfl, rfl, hg2⟩) rfl rfl ?_; clear hS
   intro tm hS
   refine o_pickF hS (.inl rfl) rfl rfl hg2 rfl ?_; clear hS
   intro tm hS
   have hc2 : c2 = ((a1.Data.length : Int) != (b1.Data.length : Int)) := hc2.trans (by rw [hg2]; first | rfl | simp)
   subst hc2
   exact o_nil (hS.keep (k3 rfl rfl rfl) (fun hI => (hI.sub (sc (sc (sc (sc (sc (sc sn)))))))))
 intro tm H hS
 subst hc2
 refine o_nil (hR _ _ ?_)
 clear hR R
 refine c_cond hS rfl (fun hc => ?_) (fun hc => ?_)
 ·replace h0 := iteT hc h0
  refine cr1 hS rfl rfl ?_; clear hS
  intro tm hS
  refine wpC.ret ?_
  obtain rfl := Option.some.inj h0
  refine Exists.intro _ (And.intro (rs_tmp hS rfl rs_nil) ?_)
  have hI := hS.inv
  exact ⟨rfl, (hI.sub sn)⟩
 ·replace h0 := iteF hc h0
  refine wpC.skip ?_
  refine c_seqS ?_
  refine cr1 hS rfl rfl ?_; clear hS
  intro tm hS
  obtain ⟨k1, hw1, h0⟩ := bindS h0
  refine wpC.block ?_
  refine c_loop (I := fun (s : Int) tm H => match (generalizing := false) s with | i1 => S wm 66 tm H [(2, .pointer (some ⟨b2, 0, none⟩)), (3, .pointer (some ⟨b3, 0, none⟩)), (5, .int .i64 i1)] [.box b2 [.bool a1.Char, v1, v2], .box b3 [.bool b1.Char, v3, v4], .fz (rI .i64) v1 a1.Shape, .fz (rI .i64) v2 a1.Data, .fz (rI .i64) v3 b1.Shape, .fz (rI .i64) v4 b1.Data] Fr) hw1 (by change S wm 66 _ _ _ _ Fr; exact hS.keep (k3 rfl rfl rfl) (fun hI => (((((((hI.pull 5 rfl).pull 5 rfl).pull 5 rfl).pull 5 rfl).pull 4 rfl).pull 5 rfl).take 6))) ?_
  clear hS
  intro i1 tm H c3 hS h1 hq1
  change S wm 66 tm H [(2, .pointer (some ⟨b2, 0, none⟩)), (3, .pointer (some ⟨b3, 0, none⟩)), (5, .int .i64 i1)] [.box b2 [.bool a1.Char, v1, v2], .box b3 [.bool b1.Char, v3, v4], .fz (rI .i64) v1 a1.Shape, .fz (rI .i64) v2 a1.Data, .fz (rI .i64) v3 b1.Shape, .fz (rI .i64) v4 b1.Data] Fr at hS
  refine c_seqS ?_
  refine c_reg fun R hR => ?_
  refine pp2 hS rfl rfl rfl rfl ?_; clear hS
  intro tm hS
  refine o_ld1 (k := 0) hS (.inl rfl) rfl rfl rfl (.inl rfl) Fu22 rfl rfl ?_; clear hS
  intro tm hS
  refine o_len (k := 2) (r := (rI .i64)) hS (.inl rfl) rfl rfl rfl (.inl rfl) Fu22 rfl ?_; clear hS
  intro tm hS
  refine pp1 hS rfl rfl ?_; clear hS
  intro tm hS
  refine o_nil (hR _ _ ?_)
  clear hR R
  refine c_cond hS rfl (fun hc => ?_) (fun hc => ?_)
  ·replace h1 := iteT hc h1
   refine wpC.skip ?_
   refine c_seqS ?_
   refine wpC.block ?_
   refine c_reg fun R hR => ?_
   refine pp1 hS rfl rfl ?_; clear hS
   intro tm hS
   refine o_ld1 (k := 0) hS (.inl rfl) rfl rfl rfl (.inl rfl) Fu22 rfl rfl ?_; clear hS
   intro tm hS
   refine pp1 hS rfl rfl ?_; clear hS
   intro tm hS
   obtain ⟨y1, hx1, h1⟩ := bindS h1
   refine o_ixA (k := 2) (r := (rI .i64)) hS (.inl rfl) rfl rfl rfl rfl (.inl rfl) Fu22 Fs3 hx1 ?_; clear hS
   intro tm hS
   refine o_ldF (r := (rI .i64)) (k := 2) hS (.inl rfl) rfl rfl rfl (.inl rfl) hx1 Fu3 rfl (flat_I _) rfl ?_; clear hS
   intro tm hS
   refine pp1 hS rfl rfl ?_; clear hS
   intro tm hS
   refine o_ld1 (k := 1) hS (.inl rfl) rfl rfl rfl (.inl rfl) Fu22 rfl rfl ?_; clear hS
   intro tm hS
   refine pp1 hS rfl rfl ?_; clear hS
   intro tm hS
   obtain ⟨y2, hx2, h1⟩ := bindS h1
   refine o_ixA (k := 4) (r := (rI .i64)) hS (.inl rfl) rfl rfl rfl rfl (.inl rfl) Fu22 Fs3 hx2 ?_; clear hS
   intro tm hS
   refine o_ldF (r := (rI .i64)) (k := 4) hS (.inl rfl) rfl rfl rfl (.inl rfl) hx2 Fu3 rfl (flat_I _) rfl ?_; clear hS
   intro tm hS
   refine pp1 hS rfl rfl ?_; clear hS
   intro tm hS
   refine o_nil (hR _ _ ?_)
   clear hR R
   refine c_cond hS rfl (fun hc => ?_) (fun hc => ?_)
   ·replace h1 := iteT hc h1
    refine cr1 hS rfl rfl ?_; clear hS
    intro tm hS
    refine wpC.ret ?_
    obtain rfl := Option.some.inj h1
    obtain rfl := hq1 _ rfl
    refine And.intro rfl ?_
    obtain rfl := leave h0
    refine Exists.intro _ (And.intro (rs_tmp hS rfl rs_nil) ?_)
    have hI := hS.inv
    exact ⟨rfl, (hI.sub sn)⟩
   ·replace h1 := iteF hc h1
    refine wpC.skip ?_
    refine cs3 hS rfl rfl rfl rfl rfl rfl ?_; clear hS
    intro tm hS
    obtain rfl := Option.some.inj h1
    refine ⟨_, rfl, ?_⟩
    change S wm 66 _ _ _ _ Fr; exact hS.keep (k3 rfl rfl rfl) (fun hI => (hI.sub (sc (sc (sc (sc (sc (sc sn))))))))
  ·replace h1 := iteF hc h1
   refine wpC.exit ?_
   refine seqX ?_
   obtain rfl := Option.some.inj h1
   obtain rfl := hq1 _ rfl
   refine And.intro rfl (blk_eq ?_)
   replace h0 := joinN h0
   refine c_seqS ?_
   refine cr1 hS rfl rfl ?_; clear hS
   intro tm hS
   obtain ⟨k2, hw2, h0⟩ := bindS h0
   refine wpC.block ?_
   refine c_loop (I := fun (s : Int) tm H => match (generalizing := false) s with | i2 => S wm 66 tm H [(2, .pointer (some ⟨b2, 0, none⟩)), (3, .pointer (some ⟨b3, 0, none⟩)), (6, .int .i64 i2)] [.box b2 [.bool a1.Char, v1, v2], .box b3 [.bool b1.Char, v3, v4], .fz (rI .i64) v1 a1.Shape, .fz (rI .i64) v2 a1.Data, .fz (rI .i64) v3 b1.Shape, .fz (rI .i64) v4 b1.Data] Fr) hw2 (by change S wm 66 _ _ _ _ Fr; exact hS.keep (k3 rfl rfl rfl) (fun hI => (hI.sub (sc (sc (sc (sc (sc (sc sn))))))))) ?_
   clear hS
   intro i2 tm H c4 hS h3 hq3
   change S wm 66 tm H [(2, .pointer (some ⟨b2, 0, none⟩)), (3, .pointer (some ⟨b3, 0, none⟩)), (6, .int .i64 i2)] [.box b2 [.bool a1.Char, v1, v2], .box b3 [.bool b1.Char, v3, v4], .fz (rI .i64) v1 a1.Shape, .fz (rI .i64) v2 a1.Data, .fz (rI .i64) v3 b1.Shape, .fz (rI .i64) v4 b1.Data] Fr at hS
   refine c_seqS ?_
   refine c_reg fun R hR => ?_
   refine pp2 hS rfl rfl rfl rfl ?_; clear hS
   intro tm hS
   refine o_ld1 (k := 0) hS (.inl rfl) rfl rfl rfl (.inl rfl) Fu23 rfl rfl ?_; clear hS
   intro tm hS
   refine o_len (k := 3) (r := (rI .i64)) hS (.inl rfl) rfl rfl rfl (.inl rfl) Fu23 rfl ?_; clear hS
   intro tm hS
   refine pp1 hS rfl rfl ?_; clear hS
   intro tm hS
   refine o_nil (hR _ _ ?_)
   clear hR R
   refine c_cond hS rfl (fun hc => ?_) (fun hc => ?_)
   ·replace h3 := iteT hc h3
    refine wpC.skip ?_
    refine c_seqS ?_
    refine wpC.block ?_
    refine c_reg fun R hR => ?_
    refine pp1 hS rfl rfl ?_; clear hS
    intro tm hS
    refine o_ld1 (k := 0) hS (.inl rfl) rfl rfl rfl (.inl rfl) Fu23 rfl rfl ?_; clear hS
    intro tm hS
    refine pp1 hS rfl rfl ?_; clear hS
    intro tm hS
    obtain ⟨y3, hx3, h3⟩ := bindS h3
    refine o_ixA (k := 3) (r := (rI .i64)) hS (.inl rfl) rfl rfl rfl rfl (.inl rfl) Fu23 Fs2 hx3 ?_; clear hS
    intro tm hS
    refine o_ldF (r := (rI .i64)) (k := 3) hS (.inl rfl) rfl rfl rfl (.inl rfl) hx3 Fu2 rfl (flat_I _) rfl ?_; clear hS
    intro tm hS
    refine pp1 hS rfl rfl ?_; clear hS
    intro tm hS
    refine o_ld1 (k := 1) hS (.inl rfl) rfl rfl rfl (.inl rfl) Fu23 rfl rfl ?_; clear hS
    intro tm hS
    refine pp1 hS rfl rfl ?_; clear hS
    intro tm hS
    obtain ⟨y4, hx4, h3⟩ := bindS h3
    refine o_ixA (k := 5) (r := (rI .i64)) hS (.inl rfl) rfl rfl rfl rfl (.inl rfl) Fu23 Fs2 hx4 ?_; clear hS
    intro tm hS
    refine o_ldF (r := (rI .i64)) (k := 5) hS (.inl rfl) rfl rfl rfl (.inl rfl) hx4 Fu2 rfl (flat_I _) rfl ?_; clear hS
    intro tm hS
    refine pp1 hS rfl rfl ?_; clear hS
    intro tm hS
    refine o_nil (hR _ _ ?_)
    clear hR R
    refine c_cond hS rfl (fun hc => ?_) (fun hc => ?_)
    ·replace h3 := iteT hc h3
     refine cr1 hS rfl rfl ?_; clear hS
     intro tm hS
     refine wpC.ret ?_
     obtain rfl := Option.some.inj h3
     obtain rfl := hq3 _ rfl
     refine And.intro rfl ?_
     obtain rfl := leave h0
     refine Exists.intro _ (And.intro (rs_tmp hS rfl rs_nil) ?_)
     have hI := hS.inv
     exact ⟨rfl, (hI.sub sn)⟩
    ·replace h3 := iteF hc h3
     refine wpC.skip ?_
     refine cs3 hS rfl rfl rfl rfl rfl rfl ?_; clear hS
     intro tm hS
     obtain rfl := Option.some.inj h3
     refine ⟨_, rfl, ?_⟩
     change S wm 66 _ _ _ _ Fr; exact hS.keep (k3 rfl rfl rfl) (fun hI => (hI.sub (sc (sc (sc (sc (sc (sc sn))))))))
   ·replace h3 := iteF hc h3
    refine wpC.exit ?_
    refine seqX ?_
    obtain rfl := Option.some.inj h3
    obtain rfl := hq3 _ rfl
    refine And.intro rfl (blk_eq ?_)
    replace h0 := joinN h0
    refine cr1 hS rfl rfl ?_; clear hS
    intro tm hS
    refine wpC.ret ?_
    obtain rfl := Option.some.inj h0
    refine Exists.intro _ (And.intro (rs_tmp hS rfl rs_nil) ?_)
    have hI := hS.inv
    exact ⟨rfl, (hI.sub sn)⟩
theorem wk22 {wm : Nat} {H : AHeap} {Fr : List Ent}  (v1 : Val) (e1 : Int) (want1 : Int)  (v2 : Value) (v3 : Value) (hI : Kn wm H [.fz (rI .i64) v2 v1.Shape, .fz (rI .i64) v3 v1.Data] Fr) {r : Bool} (h0 : M.anamnesislaw07_None v1 e1 want1 = some r) :
  wpF Try.prog ora wm 22 [.agg #[.bool v1.Char, v2, v3], .int .i64 e1, .int .i64 want1] H (fun res H => res = .bool r ∧ Kn wm H [] Fr) := by
 unfold M.anamnesislaw07_None at h0
 refine f_enter (n := 15) Try.func22 rfl (by simp) hI rfl rfl rfl fun tm hS => ?_
 clear hI
 refine c_reg fun R hR => ?_
 refine o_box hS (.inl rfl) rfl rfl rfl (all_cons rfl (all_cons (hS.one (k := 0) rfl (.inl rfl)) (all_cons (hS.one (k := 1) rfl (.inl rfl)) all_nil))) ?_; clear hS
 intro b1 tm H hS
 refine pp1 hS rfl rfl ?_; clear hS
 intro tm hS
 refine o_nil (hR _ _ ?_)
 clear hR R
 refine c_reg fun R hR => ?_
 refine pp4 hS rfl rfl rfl rfl rfl rfl rfl rfl ?_; clear hS
 intro tm hS
 obtain ⟨c1, hc1, h0⟩ := bindS h0
 refine o_cutN 4 (J := fun tm H => S wm 15 tm H [(14, .bool c1)] [] Fr) ?_ ?_
 ·rcases Bool.eq_false_or_eq_true (e1 == want1) with hg1 | hg1
  ·replace hc1 := iteT hg1 hc1
   refine o_ldA (k := 0) hS (.inr ⟨_, _, _, _, rfl, rfl, rfl, hg1⟩) rfl rfl rfl (.inl rfl) Fu25 rfl Fs25 rfl ?_; clear hS
   intro tm hS
   refine o_build hS (.inr ⟨_, _, _, _, rfl, rfl, rfl, hg1⟩) rfl Fb25 rfl .nil rfl ?_; clear hS
   intro tm hS
   obtain ⟨r1, hx1, hc1⟩ := bindS hc1
   refine o_call hS (.inr ⟨_, _, _, _, rfl, rfl, rfl, hg1⟩) rfl (fun wm' hw1 hw2 => wk21  v1 (Val.mk false ([]) ([]))  v2 v3 (.slice none 0 0) (.slice none 0 0) (((((hS.sel hw2).adNil (rI .i64)).adNil (rI .i64)).ad 2 rfl).ad 1 rfl) hx1) (fun wm' res H hw' hp => ?_)
   obtain ⟨hres, hI⟩ := hp
   replace hres := hres.symm; subst hres
   replace hS : S wm 15 _ H ((13, .bool r1) :: _) ([] ++ _) Fr := hS.after rfl hw' hI
   clear hI hw'
   refine o_pickT hS (.inl rfl) rfl rfl hg1 rfl ?_; clear hS
   intro tm hS
   obtain rfl := Option.some.inj hc1
   exact o_nil (hS.keep (ka_cons rfl ka_nil) (fun hI => (hI.sub sn)))
  ·replace hc1 := iteF hg1 hc1
   refine o_skip hS rfl rfl rfl hg1 ?_; clear hS
   intro tm hS
   refine o_skip hS rfl rfl rfl hg1 ?_; clear hS
   intro tm hS
   refine o_skip hS rfl rfl rfl hg1 ?_; clear hS
   intro tm hS
   refine o_pickF hS (.inl rfl) rfl rfl hg1 rfl ?_; clear hS
   intro tm hS
   obtain rfl := Option.some.inj hc1
   exact o_nil (hS.keep (ka_cons rfl ka_nil) (fun hI => (hI.sub sn)))
 intro tm H hS
 refine pp1 hS rfl rfl ?_; clear hS
 intro tm hS
 refine o_nil (hR _ _ ?_)
 clear hR R
 refine wpC.ret ?_
 obtain rfl := Option.some.inj h0
 refine Exists.intro _ (And.intro (rs_tmp hS rfl rs_nil) ?_)
 have hI := hS.inv
 exact ⟨rfl, (hI.sub sn)⟩
theorem wk63 {wm : Nat} {H : AHeap} {Fr : List Ent} (s1 : (List Int)) (i1 j1 : Int) (v1 : Value) (hI : Kn wm H [.own (rI .i64) v1 s1] Fr) {r : (List Int)} (h0 : M.slices_Delete__int s1 i1 j1 = some r) :
  wpF Try.prog ora wm 63 [v1, .int .i64 i1, .int .i64 j1] H (fun res H => ∃ v2, res = v2 ∧ Kn wm H [.own (rI .i64) v2 r] Fr) := by
 unfold M.slices_Delete__int del at h0
 split at h0
 case isFalse => cases h0
 rename_i hij
 obtain rfl := Option.some.inj h0
 obtain ⟨i, rfl⟩ : ∃ i : Nat, i1 = i := ⟨i1.toNat, by omega⟩
 obtain ⟨j, rfl⟩ : ∃ j : Nat, j1 = j := ⟨j1.toNat, by omega⟩
 simp only [Int.toNat_natCast]
 have hi : i ≤ j := by omega
 have hj : j ≤ s1.length := by omega
 obtain ⟨Z, hK⟩ := hI
 have hsh := hK.slAt (k := 0) (r := (rI .i64)) (v := v1) (l := s1) rfl (.inr (.inl rfl))
 refine f_enter (n := 33) Try.func63 rfl (by simp) ⟨Z, hK⟩ rfl rfl rfl fun tm hS => ?_
 refine c_reg fun R hR => ?_
 refine o_pure hS (.inl rfl) rfl rfl fun tm hS => ?_
 refine o_nil (hR _ _ ?_)
 refine c_reg fun R hR => ?_
 refine o_pure hS (.inl rfl) rfl rfl fun tm hS => ?_
 refine o_pure hS (.inl rfl) rfl rfl fun tm hS => ?_
 refine o_pure hS (.inl rfl) rfl rfl fun tm hS => ?_
 refine o_pure hS (.inl rfl) rfl rfl fun tm hS => ?_
 refine o_len (k := 0) (r := (rI .i64)) hS (.inl rfl) rfl rfl rfl (.inr (.inl rfl)) Fu22 rfl fun tm hS => ?_
 have hsl : ∃ v, aSlice Try.prog H 22 v1 (some (.int .i64 (i : Int))) (some (.int .i64 (j : Int))) (some (.int .i64 (s1.length : Int))) = some v := by
  rcases hsh with ⟨rfl, rfl⟩ | ⟨b, o, cap, own, gr, cells, cs, rfl, q1, q2, q3, q4⟩
  ·obtain rfl : i = 0 := by simp at hj; omega
   obtain rfl : j = 0 := by simp at hj; omega
   have e : bnd 0 (some (.int .i64 ((0 : Nat) : Int))) = some (some 0) := bnd_some (Nat.le_refl 0)
   have e' : bnd 0 (some (.int .i64 (([] : (List Int)).length : Int))) = some (some 0) := bnd_some (Nat.le_refl 0)
   refine ⟨.slice none 0 0, ?_⟩
   unfold aSlice
   simp only [Fu22, Fs3, e, e', Option.isSome_some, Option.isNone_some, Bool.and_false, Bool.false_eq_true, if_false, Option.getD_some]
  ·exact ⟨_, aSlice_row Fu22 Fs3 q2 (bnd_some q1) rfl (bnd_some hj) (bnd_some hi)⟩
 obtain ⟨sv, hsv⟩ := hsl
 refine o_sliceV hS (.inl rfl) rfl rfl (vlo := [.int .i64 (i : Int)]) (vhi := [.int .i64 (j : Int)]) (vmx := [.int .i64 (s1.length : Int)]) rfl rfl rfl hsv fun tm hS => ?_
 refine o_nil (hR _ _ ?_)
 refine c_seqS ?_
 refine c_reg fun R hR => ?_
 refine o_pure hS (.inl rfl) rfl rfl fun tm hS => ?_
 refine o_pure hS (.inl rfl) rfl rfl fun tm hS => ?_
 refine o_pure hS (.inl rfl) rfl rfl fun tm hS => ?_
 refine o_nil (hR _ _ ?_)
 refine c_cond hS rfl (fun hc => ?_) (fun hc => ?_)
 ·refine c_reg fun R hR => ?_
  refine o_pure hS (.inl rfl) rfl rfl fun tm hS => ?_
  refine o_pure hS (.inl rfl) rfl rfl fun tm hS => ?_
  refine o_nil (hR _ _ ?_)
  refine wpC.ret ?_
  have hij2 : i = j := by
   have : (i : Int) = (j : Int) := by simpa using hc
   omega
  subst hij2
  rw [List.take_append_drop]
  refine Exists.intro _ (And.intro (rs_tmp hS rfl rs_nil) ?_)
  exact ⟨_, rfl, hS.inv⟩
 ·have hlt : i < j := by
   have : ¬ ((i : Int) = (j : Int)) := by simpa using hc
   omega
  refine wpC.skip ?_
  refine c_reg fun R hR => ?_
  refine o_pure hS (.inl rfl) rfl rfl fun tm hS => ?_
  refine o_len (k := 0) (r := (rI .i64)) hS (.inl rfl) rfl rfl rfl (.inr (.inl rfl)) Fu22 rfl fun tm hS => ?_
  refine o_pure hS (.inl rfl) rfl rfl fun tm hS => ?_
  refine o_nil (hR _ _ ?_)
  rcases hsh with ⟨rfl, rfl⟩ | ⟨b, o, cap, own0, gr0, cells0, cs0, rfl, q1, _, _, _⟩
  ·simp at hj; omega
  obtain ⟨_, hwm, hbn, gr, cells, cs, g1, g2, g3, g4, g5⟩ := hK.ownAt (k := 0) rfl
  have hsz1 : ((rI .i64)).sz = 1 := rfl
  rw [hsz1] at g1 g2 g4
  simp only [Nat.mul_one] at g2 g4
  have hcl : cs.length = s1.length := by have := g5.len; rw [hsz1] at this; omega
  refine c_reg fun R hR => ?_
  refine o_pure hS (.inl rfl) rfl rfl fun tm hS => ?_
  refine o_pure hS (.inl rfl) rfl rfl fun tm hS => ?_
  refine o_sliceV hS (.inl rfl) rfl rfl (vlo := []) (vhi := [.int .i64 (i : Int)]) (vmx := []) rfl rfl rfl (aSlice_row Fu22 Fs3 g1 (m := none) (h := some i) (l := none) rfl rfl (bnd_some (by simp; omega)) rfl) fun tm hS => ?_
  refine o_pure hS (.inl rfl) rfl rfl fun tm hS => ?_
  refine o_pure hS (.inl rfl) rfl rfl fun tm hS => ?_
  refine o_sliceV hS (.inl rfl) rfl rfl (vlo := [.int .i64 (j : Int)]) (vhi := []) (vmx := []) rfl rfl rfl (aSlice_row Fu22 Fs3 g1 (m := none) (h := none) (l := some j) rfl rfl rfl (bnd_some hj)) fun tm hS => ?_
  simp only [Option.getD_none, Option.getD_some, Nat.sub_zero, Nat.zero_mul, Nat.add_zero, Nat.mul_one] at hS ⊢
  have hcut2 : cut cells (o + j) (s1.length - j) = some ((cs.drop j).take (s1.length - j)) := cut_part g4 (by omega)
  have hdr : (cs.drop j).take (s1.length - j) = cs.drop j := List.take_of_length_le (by simp; omega)
  rw [hdr] at hcut2
  have hrow1 : rowOf (rI .i64) Z (cs.take i) (s1.take i) := by have := g5.take i; rw [hsz1, Nat.mul_one] at this; exact this
  have hrow2 : rowOf (rI .i64) Z (cs.drop j) (s1.drop j) := by have := g5.drop j; rw [hsz1, Nat.mul_one] at this; exact this
  have hcut1 : cut cells o i = some (cs.take i) := by have := cut_part (i := 0) (k := i) g4 (by omega); simpa using this
  have ha : ∃ cells2 gr2, ∃ H2, aAppend Try.prog wm H 22 22 (.slice (some ⟨b, o, none⟩) i cap) (.slice (some ⟨b, o + j, none⟩) (s1.length - j) (cap - j)) = some (.slice (some ⟨b, o, none⟩) (i + (s1.length - j)) cap, H2) ∧
    H2.get b = some (.row true gr2 1 cells2) ∧ cells2.length = cells.length ∧ Kn0 Z wm H2 [.own (rI .i64) (.slice (some ⟨b, o, none⟩) (s1.take i ++ s1.drop j).length cap) (s1.take i ++ s1.drop j)] Fr := by
   have hlen2 : (s1.take i ++ s1.drop j).length = i + (s1.length - j) := by simp; omega
   have hac : aCells H ((rI .i64)).sz (.slice (some ⟨b, o + j, none⟩) (s1.length - j) (cap - j)) = some ((s1.drop j).length, cs.drop j) := by
    simp only [aCells, g1, hsz1, Nat.mul_one, hcut2, Option.map_some]
    simp
   by_cases hz : s1.drop j = []
   ·have hjl : j = s1.length := by
     have := congrArg List.length hz; simp at this; omega
    subst hjl
    refine ⟨cells, gr, H, ?_, g1, rfl, ?_⟩
    ·have hac0 : aCells H 1 (.slice (some ⟨b, o + s1.length, none⟩) (s1.length - s1.length) (cap - s1.length)) = some (0, []) := by
      simp only [aCells, g1, Nat.sub_self, Nat.zero_mul]
      unfold cut
      rw [if_pos (by omega)]; simp
     have := append_none (P := Try.prog) (wm := wm) (a := some ⟨b, o, none⟩) (x := i) (y := cap) Fe22_22 hac0
     simpa using this
    ·have := hK.ownSet (k := 0) (o' := o) (cap' := cap) (gr := gr) (l' := s1.take i ++ s1.drop s1.length) (cells := cells) (cs' := cs.take i) rfl (by rw [hsz1]; omega) (by rw [hlen2]; omega) (by rw [hlen2, hsz1]; simpa using hcut1) (by simpa using hrow1)
     have hsame : (H.set b (.row true gr ((rI .i64)).sz cells)).n = H.n := rfl
     refine this.heq ?_ rfl
     intro x
     by_cases hx : x = b
     ·subst hx; rw [AHeap.get_set_same]; exact g1.symm
     ·rw [AHeap.get_set_ne _ _ hx]
   ·have hne := hz
    have hdl : (cs.drop j).length = s1.length - j := by simp; omega
    obtain ⟨cells2, hl2, hl3⟩ := lay_ok (cells := cells) (vs := cs.drop j) (o := o + i) (by rw [hdl]; omega)
    obtain ⟨c1, _⟩ := lay_cut2 hcut1 hl2
    refine ⟨cells2, gr, H.set b (.row true gr 1 cells2), ?_, AHeap.get_set_same _ _ _, hl3, ?_⟩
    ·have := append_in (P := Try.prog) (wm := wm) (st := 22) (xt := 22) Fe22_22 hac hne hwm (by rw [hsz1]; exact g1) (len := i) (cap := cap) (o := o) (by simp; omega) (by rw [hsz1, Nat.mul_one]; exact hl2)
     simpa [hsz1] using this
    ·have := hK.ownSet (k := 0) (o' := o) (cap' := cap) (gr := gr) (l' := s1.take i ++ s1.drop j) (cells := cells2) (cs' := cs.take i ++ cs.drop j) rfl (by rw [hsz1]; omega) (by rw [hlen2]; omega) (by rw [hlen2, hsz1, Nat.mul_one]; rw [hdl] at c1; exact c1) (hrow1.app hrow2)
     exact this
  obtain ⟨cells2, gr2, H2, hap, hg2, hcl2, hK2⟩ := ha
  have hlen2 : (s1.take i ++ s1.drop j).length = i + (s1.length - j) := by simp; omega
  refine o_appV hS (.inl rfl) rfl rfl rfl rfl Fu22 rfl hap ⟨Z, hK2⟩ fun tm hS => ?_
  refine o_pure hS (.inl rfl) rfl rfl fun tm hS => ?_
  refine o_nil (hR _ _ ?_)
  rw [← hlen2] at hS
  refine c_reg fun R hR => ?_
  refine o_pure hS (.inl rfl) rfl rfl fun tm hS => ?_
  refine o_pure hS (.inl rfl) rfl rfl fun tm hS => ?_
  refine o_len (k := 0) (r := (rI .i64)) hS (.inl rfl) rfl rfl rfl (.inr (.inl rfl)) Fu22 rfl fun tm hS => ?_
  refine o_pure hS (.inl rfl) rfl rfl fun tm hS => ?_
  refine o_sliceV hS (.inl rfl) rfl rfl (vlo := [.int .i64 ((s1.take i ++ s1.drop j).length : Int)]) (vhi := [.int .i64 (s1.length : Int)]) (vmx := []) rfl rfl rfl (aSlice_row Fu22 Fs3 hg2 (m := none) (h := some s1.length) (l := some (s1.take i ++ s1.drop j).length) rfl rfl (bnd_some (by simp; omega)) (bnd_some (by simp; omega))) fun tm hS => ?_
  simp only [Option.getD_none, Option.getD_some, Nat.mul_one] at hS ⊢
  obtain ⟨q, hq⟩ : ∃ q, s1.length - (s1.take i ++ s1.drop j).length = q + 1 := ⟨s1.length - (s1.take i ++ s1.drop j).length - 1, by rw [hlen2]; omega⟩
  obtain ⟨cells3, hl4, hl5⟩ := lay_ok (cells := cells2) (vs := (zeros (((Try.prog.info? 3).getD default).zero.getD undef) (q + 1)).toList) (o := o + (s1.take i ++ s1.drop j).length) (by
   have : (zeros (((Try.prog.info? 3).getD default).zero.getD undef) (q + 1)).toList.length = q + 1 := by simp [zeros]
   rw [this, hcl2]; omega)
  obtain ⟨_, _, _, gr3, cells4, cs4, k1, k2, k3, k4, k5⟩ := hK2.ownAt (k := 0) rfl
  rw [hg2] at k1
  obtain ⟨rfl, rfl⟩ : gr2 = gr3 ∧ cells2 = cells4 := by simpa [hsz1] using k1
  refine o_clrV (H' := H2.set b (.row true gr2 1 cells3)) (L' := [.own (rI .i64) (.slice (some ⟨b, o, none⟩) (s1.take i ++ s1.drop j).length cap) (s1.take i ++ s1.drop j)]) hS (.inl rfl) rfl rfl ?_ ⟨Z, ?_⟩ fun tm hS => ?_
  ·rw [hq]
   exact clear_in Fm22 hwm hg2 hl4
  ·have := hK2.ownSet (k := 0) (o' := o) (cap' := cap) (gr := gr2) (l' := s1.take i ++ s1.drop j) (cells := cells3) (cs' := cs4) rfl (by rw [hsz1] at k2 ⊢; omega) k3 (by
    rw [hsz1, Nat.mul_one] at k4 ⊢
    rw [lay_after hl4]; exact k4) k5
   exact this
  refine o_nil (hR _ _ ?_)
  refine c_reg fun R hR => ?_
  refine o_pure hS (.inl rfl) rfl rfl fun tm hS => ?_
  refine o_pure hS (.inl rfl) rfl rfl fun tm hS => ?_
  refine o_nil (hR _ _ ?_)
  refine wpC.ret ?_
  refine Exists.intro _ (And.intro (rs_tmp hS rfl rs_nil) ?_)
  exact ⟨_, rfl, hS.inv⟩
theorem wk34 {wm : Nat} {H : AHeap} {Fr : List Ent}  (s1 : (List Int)) (axis1 : Int)  (v1 : Value) (hI : Kn wm H [.fz (rI .i64) v1 s1] Fr) {r : (List Int)} (h0 : M.shape_Without s1 axis1 = some r) :
  wpF Try.prog ora wm 34 [v1, .int .i64 axis1] H (fun res H => ∃ v4, res = v4 ∧ Kn wm H [.own (rI .i64) v4 r] Fr) := by
 unfold M.shape_Without at h0
 refine f_enter (n := 22) Try.func34 rfl (by simp) hI rfl rfl rfl fun tm hS => ?_
 clear hI
 refine cr1 hS rfl rfl ?_; clear hS
 intro tm hS
 refine c_reg fun R hR => ?_
 refine pp1 hS rfl rfl ?_; clear hS
 intro tm hS
 obtain ⟨r1, hx1, h0⟩ := bindS h0
 refine o_call hS (.inl rfl) rfl (fun wm' hw1 hw2 => wk62  s1  v1 ((hS.sel hw2).ad 0 rfl) hx1) (fun wm' res H hw' hp => ?_)
 obtain ⟨v2, hres, hI⟩ := hp
 replace hres := hres.symm; subst hres
 replace hS : S wm 22 _ H ((7, v2) :: _) ([.own (rI .i64) v2 r1] ++ _) Fr := hS.after rfl hw' hI
 clear hI hw'
 refine pp1 hS rfl rfl ?_; clear hS
 intro tm hS
 refine o_nil (hR _ _ ?_)
 clear hR R
 refine c_seqS ?_
 refine c_reg fun R hR => ?_
 refine pp3 hS rfl rfl rfl rfl rfl rfl ?_; clear hS
 intro tm hS
 obtain ⟨c1, hc1⟩ : ∃ x : Bool, x = ((decide (axis1 < 0)) || (decide (axis1 ≥ (s1.length : Int)))) := ⟨_, rfl⟩
 refine o_cutN 5 (J := fun tm H => S wm 22 tm H [(15, .bool c1), (1, .int .i64 axis1), (5, v2)] [.own (rI .i64) v2 r1] Fr) ?_ ?_
 ·rcases Bool.eq_false_or_eq_true (decide (axis1 < 0)) with hg1 | hg1
  ·refine o_skip hS rfl rfl rfl hg1 ?_; clear hS
   intro tm hS
   refine o_skip hS rfl rfl rfl hg1 ?_; clear hS
   intro tm hS
   refine o_skip hS rfl rfl rfl hg1 ?_; clear hS
   intro tm hS
   refine o_skip hS rfl rfl rfl hg1 ?_; clear hS
   intro tm hS
   refine o_pickT hS (.inl rfl) rfl rfl hg1 rfl ?_; clear hS
   intro tm hS
   have hc1 : c1 = true := hc1.trans (by rw [hg1]; first | rfl | simp)
   subst hc1
   exact o_nil (hS.keep (k3 rfl rfl rfl) (fun hI => (hI.sub (sc sn))))
  ·refine o_pure hS (.inr ⟨_, _, _, _, rfl, rfl, rfl, hg1⟩) rfl rfl ?_; clear hS
   intro tm hS
   refine o_pure hS (.inr ⟨_, _, _, _, rfl, rfl, rfl, hg1⟩) rfl rfl ?_; clear hS
   intro tm hS
   refine o_len (k := 1) (r := (rI .i64)) hS (.inr ⟨_, _, _, _, rfl, rfl, rfl, hg1⟩) rfl rfl rfl (.inl rfl) Fu22 rfl ?_; clear hS
   intro tm hS
   refine o_pure hS (.inr ⟨_, _, _, _, rfl, rfl, rfl, hg1⟩) rfl rfl ?_; clear hS
   intro tm hS
   refine o_pickF hS (.inl rfl) rfl rfl hg1 rfl ?_; clear hS
   intro tm hS
   have hc1 : c1 = (decide (axis1 ≥ (s1.length : Int))) := hc1.trans (by rw [hg1]; first | rfl | simp)
   subst hc1
   exact o_nil (hS.keep (k3 rfl rfl rfl) (fun hI => (hI.sub (sc sn))))
 intro tm H hS
 subst hc1
 refine o_nil (hR _ _ ?_)
 clear hR R
 refine c_cond hS rfl (fun hc => ?_) (fun hc => ?_)
 ·replace h0 := iteT hc h0
  refine cr2 hS rfl rfl rfl rfl ?_; clear hS
  intro tm hS
  refine wpC.ret ?_
  obtain rfl := Option.some.inj h0
  refine Exists.intro _ (And.intro (rs_tmp hS rfl rs_nil) ?_)
  have hI := hS.inv
  exact ⟨v2, rfl, (hI.sub (sc sn))⟩
 ·replace h0 := iteF hc h0
  refine wpC.skip ?_
  refine c_reg fun R hR => ?_
  refine pp4 hS rfl rfl rfl rfl rfl rfl rfl rfl ?_; clear hS
  intro tm hS
  replace hS := hS.front 0 rfl
  obtain ⟨r2, hx2, h0⟩ := bindS h0
  refine o_callO hS (.inl rfl) rfl rfl (wk63  r1 axis1 (IntKind.i64.wrap (axis1 + 1))  v2 (hS.selN 1) hx2) (fun res H hp => ?_)
  obtain ⟨v3, hres, hI⟩ := hp
  replace hres := hres.symm; subst hres
  replace hS : S wm 22 _ H ((21, v3) :: _) ([.own (rI .i64) v3 r2] ++ _) Fr := hS.afterN rfl hI
  clear hI
  refine pp1 hS rfl rfl ?_; clear hS
  intro tm hS
  refine o_nil (hR _ _ ?_)
  clear hR R
  refine wpC.ret ?_
  obtain rfl := Option.some.inj h0
  refine Exists.intro _ (And.intro (rs_tmp hS rfl rs_nil) ?_)
  have hI := hS.inv
  exact ⟨v3, rfl, (hI.sub (sc sn))⟩
theorem wk11 {wm : Nat} {H : AHeap} {Fr : List Ent} (ho100 : ora 100 = false) (fn1 : ByteArray) (v1 : Val) (axis1 : Int)  (v2 : Value) (v3 : Value) (hI : Kn wm H [.fz (rI .i64) v2 v1.Shape, .fz (rI .i64) v3 v1.Data] Fr) {r : Val × Int} (h0 : M.over_Reduce fn1 v1 axis1 = some r) :
  wpF Try.prog ora wm 11 [.string fn1, .agg #[.bool v1.Char, v2, v3], .int .i64 axis1] H (fun res H => ∃ v15 v16, res = .tuple #[.agg #[.bool r.1.Char, v15, v16], .int .i64 r.2] ∧ Kn wm H [.own (rI .i64) v15 r.1.Shape, .own (rI .i64) v16 r.1.Data] Fr) := by
 unfold M.over_Reduce at h0
 refine f_enter (n := 117) Try.func11 rfl (by simp) hI rfl rfl rfl fun tm hS => ?_
 clear hI
 refine c_reg fun R hR => ?_
 refine o_box hS (.inl rfl) rfl rfl rfl (all_cons rfl (all_cons (hS.one (k := 0) rfl (.inl rfl)) (all_cons (hS.one (k := 1) rfl (.inl rfl)) all_nil))) ?_; clear hS
 intro b1 tm H hS
 refine o_alloc hS (.inl rfl) rfl Fz25 (by decide) ?_; clear hS
 intro b2 tm H hS
 refine pp1 hS rfl rfl ?_; clear hS
 intro tm hS
 refine o_nil (hR _ _ ?_)
 clear hR R
 refine c_reg fun R hR => ?_
 refine pp1 hS rfl rfl ?_; clear hS
 intro tm hS
 refine o_ldA (k := 1) hS (.inl rfl) rfl rfl rfl (.inl rfl) Fu25 rfl Fs25 rfl ?_; clear hS
 intro tm hS
 refine o_lit (r := rVal) (l := [v1]) hS (.inl rfl) rfl Fl103 rfl rfl rfl (.cons rfl .nil) rfl rfl (ri_3 (rd_Val ⟨2, rfl⟩ ⟨3, rfl⟩) ri_nil) rfl ?_; clear hS
 intro v4 tm H hS
 replace hS := hS.litFrz (k := 0) rfl
 obtain ⟨⟨r1, r2⟩, hx1, h0⟩ := bindS h0
 refine o_call hS (.inl rfl) rfl (fun wm' hw1 hw2 => wk31  fn1 ([v1])  v4 ((hS.sel hw2).ad 0 rfl) hx1) (fun wm' res H hw' hp => ?_)
 obtain ⟨v5, hres, hI⟩ := hp
 replace hres := hres.symm; subst hres
 replace hS : S wm 117 _ H ((26, .tuple #[v5, .int .i64 r2]) :: _) ([.el (rClo 87) [v5] r1] ++ _) Fr := hS.after rfl hw' hI
 clear hI hw'
 refine pp5 hS rfl rfl rfl rfl rfl rfl rfl rfl rfl rfl ?_; clear hS
 intro tm hS
 refine o_nil (hR _ _ ?_)
 clear hR R
 refine c_seqS ?_
 refine cr2 hS rfl rfl rfl rfl ?_; clear hS
 intro tm hS
 refine c_cond hS rfl (fun hc => ?_) (fun hc => ?_)
 ·replace h0 := iteT hc h0
  refine c_reg fun R hR => ?_
  refine o_build hS (.inl rfl) rfl Fb25 rfl .nil rfl ?_; clear hS
  intro tm hS
  refine pp1 hS rfl rfl ?_; clear hS
  intro tm hS
  refine o_st (k := 2) hS (.inl rfl) rfl rfl rfl Fs25 rfl rfl (all_cons rfl (all_cons rfl (all_cons rfl all_nil))) rfl ?_; clear hS; try clear H
  intro H hS
  refine pp1 hS rfl rfl ?_; clear hS
  intro tm hS
  refine o_nil (hR _ _ ?_)
  clear hR R
  refine wpC.ret ?_
  obtain rfl := Option.some.inj h0
  replace hS := hS.nilOwn (rI .i64)
  replace hS := hS.nilOwn (rI .i64)
  refine Exists.intro _ (And.intro (rs_cellA (k := 4) hS rfl rfl (.inl rfl) Fu25 rfl Fs25 rfl (rs_tmp hS rfl rs_nil)) ?_)
  have hI := hS.inv
  exact ⟨(.slice none 0 0), (.slice none 0 0), rfl, (((hI.pull 0 rfl).pull 1 rfl).take 2)⟩
 ·replace h0 := iteF hc h0
  refine wpC.skip ?_
  refine c_seqS ?_
  refine c_reg fun R hR => ?_
  refine pp1 hS rfl rfl ?_; clear hS
  intro tm hS
  refine o_ld1 (k := 3) hS (.inl rfl) rfl rfl rfl (.inl rfl) Fu22 rfl rfl ?_; clear hS
  intro tm hS
  refine o_len (k := 4) (r := (rI .i64)) hS (.inl rfl) rfl rfl rfl (.inl rfl) Fu22 rfl ?_; clear hS
  intro tm hS
  refine pp1 hS rfl rfl ?_; clear hS
  intro tm hS
  refine o_nil (hR _ _ ?_)
  clear hR R
  refine c_cond hS rfl (fun hc => ?_) (fun hc => ?_)
  ·replace h0 := iteT hc h0
   refine c_reg fun R hR => ?_
   refine o_ldA (k := 3) hS (.inl rfl) rfl rfl rfl (.inl rfl) Fu25 rfl Fs25 rfl ?_; clear hS
   intro tm hS
   obtain ⟨r3, hx2, h0⟩ := bindS h0
   refine o_call hS (.inl rfl) rfl (fun wm' hw1 hw2 => wk32  v1  v2 v3 (((hS.sel hw2).ad 5 rfl).ad 4 rfl) hx2) (fun wm' res H hw' hp => ?_)
   obtain ⟨v6, v7, hres, hI⟩ := hp
   replace hres := hres.symm; subst hres
   replace hS : S wm 117 _ H ((38, .agg #[.bool r3.Char, v6, v7]) :: _) ([.own (rI .i64) v6 r3.Shape, .own (rI .i64) v7 r3.Data] ++ _) Fr := hS.after rfl hw' hI
   clear hI hw'
   refine o_st (k := 4) hS (.inl rfl) rfl rfl rfl Fs25 rfl rfl (all_cons rfl (all_cons (hS.one (k := 0) rfl (.inr (.inl rfl))) (all_cons (hS.one (k := 1) rfl (.inr (.inl rfl))) all_nil))) rfl ?_; clear hS; try clear H
   intro H hS
   refine pp1 hS rfl rfl ?_; clear hS
   intro tm hS
   refine o_nil (hR _ _ ?_)
   clear hR R
   refine wpC.ret ?_
   obtain rfl := Option.some.inj h0
   refine Exists.intro _ (And.intro (rs_cellA (k := 4) hS rfl rfl (.inl rfl) Fu25 rfl Fs25 rfl (rs_tmp hS rfl rs_nil)) ?_)
   have hI := hS.inv
   exact ⟨v6, v7, rfl, (hI.sub (sc (sc sn)))⟩
  ·replace h0 := iteF hc h0
   refine wpC.skip ?_
   refine c_reg fun R hR => ?_
   refine o_ldA (k := 3) hS (.inl rfl) rfl rfl rfl (.inl rfl) Fu25 rfl Fs25 rfl ?_; clear hS
   intro tm hS
   refine pp1 hS rfl rfl ?_; clear hS
   intro tm hS
   obtain ⟨⟨r4, r5⟩, hx3, h0⟩ := bindS h0
   refine o_call hS (.inl rfl) rfl (fun wm' hw1 hw2 => wk33  v1 axis1  v2 v3 (((hS.sel hw2).ad 5 rfl).ad 4 rfl) hx3) (fun wm' res H hw' hp => ?_)
   obtain ⟨hres, hI⟩ := hp
   replace hres := hres.symm; subst hres
   replace hS : S wm 117 _ H ((42, .tuple #[.int .i64 r4, .bool r5]) :: _) ([] ++ _) Fr := hS.after rfl hw' hI
   clear hI hw'
   refine pp5 hS rfl rfl rfl rfl rfl rfl rfl rfl rfl rfl ?_; clear hS
   intro tm hS
   refine o_nil (hR _ _ ?_)
   clear hR R
   refine c_seqS ?_
   refine cr2 hS rfl rfl rfl rfl ?_; clear hS
   intro tm hS
   refine c_cond hS rfl (fun hc => ?_) (fun hc => ?_)
   ·replace h0 := iteT hc h0
    refine c_reg fun R hR => ?_
    refine o_build hS (.inl rfl) rfl Fb25 rfl .nil rfl ?_; clear hS
    intro tm hS
    refine o_st (k := 2) hS (.inl rfl) rfl rfl rfl Fs25 rfl rfl (all_cons rfl (all_cons rfl (all_cons rfl all_nil))) rfl ?_; clear hS; try clear H
    intro H hS
    refine pp1 hS rfl rfl ?_; clear hS
    intro tm hS
    refine o_nil (hR _ _ ?_)
    clear hR R
    refine wpC.ret ?_
    obtain rfl := Option.some.inj h0
    replace hS := hS.nilOwn (rI .i64)
    replace hS := hS.nilOwn (rI .i64)
    refine Exists.intro _ (And.intro (rs_cellA (k := 4) hS rfl rfl (.inl rfl) Fu25 rfl Fs25 rfl (rs_tmp hS rfl rs_nil)) ?_)
    have hI := hS.inv
    exact ⟨(.slice none 0 0), (.slice none 0 0), rfl, (((hI.pull 0 rfl).pull 1 rfl).take 2)⟩
   ·replace h0 := iteF hc h0
    refine wpC.skip ?_
    refine c_reg fun R hR => ?_
    refine pp1 hS rfl rfl ?_; clear hS
    intro tm hS
    refine o_ld1 (k := 3) hS (.inl rfl) rfl rfl rfl (.inl rfl) Fu22 rfl rfl ?_; clear hS
    intro tm hS
    refine pp1 hS rfl rfl ?_; clear hS
    intro tm hS
    obtain ⟨r6, hx4, h0⟩ := bindS h0
    refine o_call hS (.inl rfl) rfl (fun wm' hw1 hw2 => wk34  v1.Shape r4  v2 ((hS.sel hw2).ad 4 rfl) hx4) (fun wm' res H hw' hp => ?_)
    obtain ⟨v8, hres, hI⟩ := hp
    replace hres := hres.symm; subst hres
    replace hS : S wm 117 _ H ((51, v8) :: _) ([.own (rI .i64) v8 r6] ++ _) Fr := hS.after rfl hw' hI
    clear hI hw'
    refine pp1 hS rfl rfl ?_; clear hS
    intro tm hS
    refine o_nil (hR _ _ ?_)
    clear hR R
    refine c_reg fun R hR => ?_
    refine pp1 hS rfl rfl ?_; clear hS
    intro tm hS
    obtain ⟨⟨r7, r8⟩, hx5, h0⟩ := bindS h0
    refine o_call (Pc := fun _ res H => res = .tuple #[.int .i64 r7, .int .i64 r8] ∧ Kn wm H ([.own (rI .i64) v8 r6, .el (rClo 87) [v5] r1, .fz rVal v4 ([v1]), .box b2 [.bool false, (.slice none 0 0), (.slice none 0 0)], .box b1 [.bool v1.Char, v2, v3], .fz (rI .i64) v2 v1.Shape, .fz (rI .i64) v3 v1.Data]) Fr) hS (.inl rfl) rfl (fun wm' hw1 hw2 => by
     obtain ⟨F2, kk_1, kk_2⟩ := hS.inv.lend (La := [.fz (rI .i64) v8 r6]) (List.forall_mem_cons.mpr ⟨(.inr ⟨_, _, _, _, rfl, .inl (List.mem_of_getElem? (i := 0) rfl)⟩), (fun _ h => by cases h)⟩) hw1 hw2
     exact (wk35  r6  v8 kk_1 hx5).mono fun res H2 ⟨qq_1, qq_2⟩ => ⟨qq_1, kk_2 _ qq_2⟩) (fun wm' res H hw' hp => ?_)
    obtain ⟨hres, hI⟩ := hp
    replace hres := hres.symm; subst hres
    replace hS : S wm 117 _ H ((54, .tuple #[.int .i64 r7, .int .i64 r8]) :: _) ([.own (rI .i64) v8 r6, .el (rClo 87) [v5] r1, .fz rVal v4 ([v1]), .box b2 [.bool false, (.slice none 0 0), (.slice none 0 0)], .box b1 [.bool v1.Char, v2, v3], .fz (rI .i64) v2 v1.Shape, .fz (rI .i64) v3 v1.Data]) Fr := (hS.put rfl _).withK hI
    clear hI hw'
    refine pp5 hS rfl rfl rfl rfl rfl rfl rfl rfl rfl rfl ?_; clear hS
    intro tm hS
    refine o_nil (hR _ _ ?_)
    clear hR R
    refine c_seqS ?_
    refine cr2 hS rfl rfl rfl rfl ?_; clear hS
    intro tm hS
    refine c_cond hS rfl (fun hc => ?_) (fun hc => ?_)
    ·replace h0 := iteT hc h0
     refine c_reg fun R hR => ?_
     refine o_build hS (.inl rfl) rfl Fb25 rfl .nil rfl ?_; clear hS
     intro tm hS
     refine o_st (k := 3) hS (.inl rfl) rfl rfl rfl Fs25 rfl rfl (all_cons rfl (all_cons rfl (all_cons rfl all_nil))) rfl ?_; clear hS; try clear H
     intro H hS
     refine pp1 hS rfl rfl ?_; clear hS
     intro tm hS
     refine o_nil (hR _ _ ?_)
     clear hR R
     refine wpC.ret ?_
     obtain rfl := Option.some.inj h0
     replace hS := hS.nilOwn (rI .i64)
     replace hS := hS.nilOwn (rI .i64)
     refine Exists.intro _ (And.intro (rs_cellA (k := 5) hS rfl rfl (.inl rfl) Fu25 rfl Fs25 rfl (rs_tmp hS rfl rs_nil)) ?_)
     have hI := hS.inv
     exact ⟨(.slice none 0 0), (.slice none 0 0), rfl, (((hI.pull 0 rfl).pull 1 rfl).take 2)⟩
    ·replace h0 := iteF hc h0
     refine wpC.skip ?_
     refine c_reg fun R hR => ?_
     refine pp1 hS rfl rfl ?_; clear hS
     intro tm hS
     refine o_ld1 (k := 4) hS (.inl rfl) rfl rfl rfl (.inl rfl) Fu22 rfl rfl ?_; clear hS
     intro tm hS
     refine pp1 hS rfl rfl ?_; clear hS
     intro tm hS
     obtain ⟨⟨r9, r10, r11, r12⟩, hx6, h0⟩ := bindS h0
     refine o_call hS (.inl rfl) rfl (fun wm' hw1 hw2 => wk36  v1.Shape r4  v2 ((hS.sel hw2).ad 5 rfl) hx6) (fun wm' res H hw' hp => ?_)
     obtain ⟨hres, hI⟩ := hp
     replace hres := hres.symm; subst hres
     replace hS : S wm 117 _ H ((64, .tuple #[.int .i64 r9, .int .i64 r10, .int .i64 r11, .bool r12]) :: _) ([] ++ _) Fr := hS.after rfl hw' hI
     clear hI hw'
     refine pp6 hS rfl rfl rfl rfl rfl rfl rfl rfl rfl rfl rfl rfl ?_; clear hS
     intro tm hS
     refine pp3 hS rfl rfl rfl rfl rfl rfl ?_; clear hS
     intro tm hS
     refine o_nil (hR _ _ ?_)
     clear hR R
     refine c_reg fun R hR => ?_
     refine pp1 hS rfl rfl ?_; clear hS
     intro tm hS
     refine o_ld1 (k := 4) hS (.inl rfl) rfl rfl rfl (.inl rfl) Fu4 rfl rfl ?_; clear hS
     intro tm hS
     refine pp1 hS rfl rfl ?_; clear hS
     intro tm hS
     obtain ⟨c1, hc1⟩ : ∃ x : Bool, x = (v1.Char && (r10 == 1)) := ⟨_, rfl⟩
     refine o_cutN 3 (J := fun tm H => S wm 117 tm H [(74, .bool c1), (0, .string fn1), (4, .pointer (some ⟨b1, 0, none⟩)), (6, .pointer (some ⟨b2, 0, none⟩)), (8, v5), (11, v8), (12, .int .i64 r7), (13, .int .i64 r9), (14, .int .i64 r10), (15, .int .i64 r11)] [.own (rI .i64) v8 r6, .el (rClo 87) [v5] r1, .box b2 [.bool false, (.slice none 0 0), (.slice none 0 0)], .box b1 [.bool v1.Char, v2, v3], .fz (rI .i64) v2 v1.Shape, .fz (rI .i64) v3 v1.Data] Fr) ?_ ?_
     ·rcases Bool.eq_false_or_eq_true v1.Char with hg1 | hg1
      ·refine o_pure hS (.inr ⟨_, _, _, _, rfl, rfl, rfl, hg1⟩) rfl rfl ?_; clear hS
       intro tm hS
       refine o_pure hS (.inr ⟨_, _, _, _, rfl, rfl, rfl, hg1⟩) rfl rfl ?_; clear hS
       intro tm hS
       refine o_pickT hS (.inl rfl) rfl rfl hg1 rfl ?_; clear hS
       intro tm hS
       have hc1 : c1 = (r10 == 1) := hc1.trans (by rw [hg1]; first | rfl | simp)
       subst hc1
       exact o_nil (hS.keep (k10 rfl rfl rfl rfl rfl rfl rfl rfl rfl rfl) (fun hI => (hI.sub (sc (sc (sd (sc (sc (sc (sc sn))))))))))
      ·refine o_skip hS rfl rfl rfl hg1 ?_; clear hS
       intro tm hS
       refine o_skip hS rfl rfl rfl hg1 ?_; clear hS
       intro tm hS
       refine o_pickF hS (.inl rfl) rfl rfl hg1 rfl ?_; clear hS
       intro tm hS
       have hc1 : c1 = false := hc1.trans (by rw [hg1]; first | rfl | simp)
       subst hc1
       exact o_nil (hS.keep (k10 rfl rfl rfl rfl rfl rfl rfl rfl rfl rfl) (fun hI => (hI.sub (sc (sc (sd (sc (sc (sc (sc sn))))))))))
     intro tm H hS
     subst hc1
     refine pp2 hS rfl rfl rfl rfl ?_; clear hS
     intro tm hS
     obtain ⟨l1, hx7, h0⟩ := bindS h0
     refine o_mk (r := (rI .i64)) hS (.inl rfl) rfl rfl rfl Fm23 rfl (fun _ => rfl) hx7 ?_; clear hS
     intro v9 tm H hS
     refine o_build hS (.inl rfl) rfl Fb25 rfl (.cons rfl (.cons (cells_one (hS.one (k := 1) rfl (.inr (.inl rfl)))) (.cons (cells_one (hS.one (k := 0) rfl (.inr (.inl rfl)))) .nil))) rfl ?_; clear hS
     intro tm hS
     refine o_alloc hS (.inl rfl) rfl Fz25 (by decide) ?_; clear hS
     intro b3 tm H hS
     refine o_st (k := 0) hS (.inl rfl) rfl rfl rfl Fs25 rfl rfl (all_cons rfl (all_cons (hS.one (k := 2) rfl (.inr (.inl rfl))) (all_cons (hS.one (k := 1) rfl (.inr (.inl rfl))) all_nil))) rfl ?_; clear hS; try clear H
     intro H hS
     refine o_nil (hR _ _ ?_)
     clear hR R
     refine c_seqS ?_
     refine cr1 hS rfl rfl ?_; clear hS
     intro tm hS
     obtain ⟨k1, hw1, h0⟩ := bindS h0
     refine wpC.block ?_
     refine c_loop (I := fun (s : Int × (List Int)) tm H => match (generalizing := false) s with | (i1, Data1) => ∃ v10, S wm 117 tm H [(0, .string fn1), (4, .pointer (some ⟨b1, 0, none⟩)), (6, .pointer (some ⟨b2, 0, none⟩)), (8, v5), (12, .int .i64 r7), (13, .int .i64 r9), (14, .int .i64 r10), (15, .int .i64 r11), (17, .pointer (some ⟨b3, 0, none⟩)), (18, .int .i64 i1)] [.box b1 [.bool v1.Char, v2, v3], .box b2 [.bool false, (.slice none 0 0), (.slice none 0 0)], .box b3 [.bool (v1.Char && (r10 == 1)), v8, v10], .own (rI .i64) v10 Data1, .fz (rI .i64) v2 v1.Shape, .fz (rI .i64) v3 v1.Data, .el (rClo 87) [v5] r1, .own (rI .i64) v8 r6] Fr) hw1 (by refine Exists.intro v9 ?_; change S wm 117 _ _ _ _ Fr; exact hS.keep (k10 rfl rfl rfl rfl rfl rfl rfl rfl rfl rfl) (fun hI => (hI.pick [5, 4, 0, 1, 6, 7, 3, 2] rfl))) ?_
     clear hS
     intro s1 tm H c2 hS h3 hq3
     obtain ⟨i1, Data1⟩ := s1
     obtain ⟨v10, hS⟩ := hS
     change S wm 117 tm H [(0, .string fn1), (4, .pointer (some ⟨b1, 0, none⟩)), (6, .pointer (some ⟨b2, 0, none⟩)), (8, v5), (12, .int .i64 r7), (13, .int .i64 r9), (14, .int .i64 r10), (15, .int .i64 r11), (17, .pointer (some ⟨b3, 0, none⟩)), (18, .int .i64 i1)] [.box b1 [.bool v1.Char, v2, v3], .box b2 [.bool false, (.slice none 0 0), (.slice none 0 0)], .box b3 [.bool (v1.Char && (r10 == 1)), v8, v10], .own (rI .i64) v10 Data1, .fz (rI .i64) v2 v1.Shape, .fz (rI .i64) v3 v1.Data, .el (rClo 87) [v5] r1, .own (rI .i64) v8 r6] Fr at hS
     refine c_seqS ?_
     refine c_reg fun R hR => ?_
     refine pp4 hS rfl rfl rfl rfl rfl rfl rfl rfl ?_; clear hS
     intro tm hS
     obtain ⟨c3, hc2⟩ : ∃ x : Bool, x = ((decide (i1 < r9)) && (decide (r7 > 0))) := ⟨_, rfl⟩
     refine o_cutN 3 (J := fun tm H => S wm 117 tm H [(85, .bool c3), (0, .string fn1), (4, .pointer (some ⟨b1, 0, none⟩)), (6, .pointer (some ⟨b2, 0, none⟩)), (8, v5), (12, .int .i64 r7), (13, .int .i64 r9), (14, .int .i64 r10), (15, .int .i64 r11), (17, .pointer (some ⟨b3, 0, none⟩)), (18, .int .i64 i1)] [.box b1 [.bool v1.Char, v2, v3], .box b2 [.bool false, (.slice none 0 0), (.slice none 0 0)], .box b3 [.bool (v1.Char && (r10 == 1)), v8, v10], .own (rI .i64) v10 Data1, .fz (rI .i64) v2 v1.Shape, .fz (rI .i64) v3 v1.Data, .el (rClo 87) [v5] r1, .own (rI .i64) v8 r6] Fr) ?_ ?_
     ·rcases Bool.eq_false_or_eq_true (decide (i1 < r9)) with hg2 | hg2
      ·refine o_pure hS (.inr ⟨_, _, _, _, rfl, rfl, rfl, hg2⟩) rfl rfl ?_; clear hS
       intro tm hS
       refine o_pure hS (.inr ⟨_, _, _, _, rfl, rfl, rfl, hg2⟩) rfl rfl ?_; clear hS
       intro tm hS
       refine o_pickT hS (.inl rfl) rfl rfl hg2 rfl ?_; clear hS
       intro tm hS
       have hc2 : c3 = (decide (r7 > 0)) := hc2.trans (by rw [hg2]; first | rfl | simp)
       subst hc2
       exact o_nil (hS.keep (k11 rfl rfl rfl rfl rfl rfl rfl rfl rfl rfl rfl) (fun hI => (hI.sub (sc (sc (sc (sc (sc (sc (sc (sc sn)))))))))))
      ·refine o_skip hS rfl rfl rfl hg2 ?_; clear hS
       intro tm hS
       refine o_skip hS rfl rfl rfl hg2 ?_; clear hS
       intro tm hS
       refine o_pickF hS (.inl rfl) rfl rfl hg2 rfl ?_; clear hS
       intro tm hS
       have hc2 : c3 = false := hc2.trans (by rw [hg2]; first | rfl | simp)
       subst hc2
       exact o_nil (hS.keep (k11 rfl rfl rfl rfl rfl rfl rfl rfl rfl rfl rfl) (fun hI => (hI.sub (sc (sc (sc (sc (sc (sc (sc (sc sn)))))))))))
     intro tm H hS
     subst hc2
     refine o_nil (hR _ _ ?_)
     clear hR R
     refine c_cond hS rfl (fun hc => ?_) (fun hc => ?_)
     ·replace h3 := iteT hc h3
      refine wpC.skip ?_
      refine c_seqS ?_
      refine wpC.block ?_
      refine cr2 hS rfl rfl rfl rfl ?_; clear hS
      intro tm hS
      obtain ⟨k2, hw2, h3⟩ := bindS h3
      refine wpC.block ?_
      refine c_loop (I := fun (s : Int × (List Int)) tm H => match (generalizing := false) s with | (t1, Data2) => ∃ v11, S wm 117 tm H [(0, .string fn1), (4, .pointer (some ⟨b1, 0, none⟩)), (6, .pointer (some ⟨b2, 0, none⟩)), (8, v5), (12, .int .i64 r7), (13, .int .i64 r9), (14, .int .i64 r10), (15, .int .i64 r11), (17, .pointer (some ⟨b3, 0, none⟩)), (18, .int .i64 i1), (88, .int .i64 r11), (89, .int .i64 t1)] [.box b1 [.bool v1.Char, v2, v3], .box b2 [.bool false, (.slice none 0 0), (.slice none 0 0)], .box b3 [.bool (v1.Char && (r10 == 1)), v8, v11], .own (rI .i64) v11 Data2, .fz (rI .i64) v2 v1.Shape, .fz (rI .i64) v3 v1.Data, .el (rClo 87) [v5] r1, .own (rI .i64) v8 r6] Fr) hw2 (by refine Exists.intro v10 ?_; change S wm 117 _ _ _ _ Fr; exact hS.keep (k12 rfl rfl rfl rfl rfl rfl rfl rfl rfl rfl rfl rfl) (fun hI => (hI.sub (sc (sc (sc (sc (sc (sc (sc (sc sn))))))))))) ?_
      clear hS
      intro s2 tm H c4 hS h5 hq5
      obtain ⟨t1, Data2⟩ := s2
      obtain ⟨v11, hS⟩ := hS
      change S wm 117 tm H [(0, .string fn1), (4, .pointer (some ⟨b1, 0, none⟩)), (6, .pointer (some ⟨b2, 0, none⟩)), (8, v5), (12, .int .i64 r7), (13, .int .i64 r9), (14, .int .i64 r10), (15, .int .i64 r11), (17, .pointer (some ⟨b3, 0, none⟩)), (18, .int .i64 i1), (88, .int .i64 r11), (89, .int .i64 t1)] [.box b1 [.bool v1.Char, v2, v3], .box b2 [.bool false, (.slice none 0 0), (.slice none 0 0)], .box b3 [.bool (v1.Char && (r10 == 1)), v8, v11], .own (rI .i64) v11 Data2, .fz (rI .i64) v2 v1.Shape, .fz (rI .i64) v3 v1.Data, .el (rClo 87) [v5] r1, .own (rI .i64) v8 r6] Fr at hS
      refine cr1 hS rfl rfl ?_; clear hS
      intro tm hS
      refine c_seqS ?_
      refine c_cond hS rfl (fun hc => ?_) (fun hc => ?_)
      ·replace h5 := iteT hc h5
       refine wpC.skip ?_
       refine c_seqS ?_
       refine wpC.block ?_
       refine cr2 hS rfl rfl rfl rfl ?_; clear hS
       intro tm hS
       refine c_reg fun R hR => ?_
       refine pp2 hS rfl rfl rfl rfl ?_; clear hS
       intro tm hS
       refine o_ldA (k := 0) hS (.inl rfl) rfl rfl rfl (.inl rfl) Fu25 rfl Fs25 rfl ?_; clear hS
       intro tm hS
       refine pp4 hS rfl rfl rfl rfl rfl rfl rfl rfl ?_; clear hS
       intro tm hS
       obtain ⟨r13, hx8, h5⟩ := bindS h5
       refine o_call hS (.inl rfl) rfl (fun wm' hw1 hw2 => wk38  v1 r10 r11 i1 t1  v2 v3 (((hS.sel hw2).ad 5 rfl).ad 4 rfl) hx8) (fun wm' res H hw' hp => ?_)
       obtain ⟨v12, hres, hI⟩ := hp
       replace hres := hres.symm; subst hres
       replace hS : S wm 117 _ H ((100, v12) :: _) ([.own rItem v12 r13] ++ _) Fr := hS.after rfl hw' hI
       clear hI hw'
       obtain ⟨⟨r14, r15⟩, hx9, h5⟩ := bindS h5
       refine o_call (Pc := fun _ res H => res = .tuple #[.agg #[.int .i64 r14.n, .bool r14.char], .int .i64 r15] ∧ Kn wm H ([.own rItem v12 r13, .box b1 [.bool v1.Char, v2, v3], .box b2 [.bool false, (.slice none 0 0), (.slice none 0 0)], .box b3 [.bool (v1.Char && (r10 == 1)), v8, v11], .own (rI .i64) v11 Data2, .fz (rI .i64) v2 v1.Shape, .fz (rI .i64) v3 v1.Data, .el (rClo 87) [v5] r1, .own (rI .i64) v8 r6]) Fr) hS (.inl rfl) rfl (fun wm' hw1 hw2 => by
        obtain ⟨F2, kk_1, kk_2⟩ := hS.inv.lend (La := [.el (rClo 87) [v5] r1, .fz rItem v12 r13]) (List.forall_mem_cons.mpr ⟨(.inl ⟨rfl, List.mem_of_getElem? (i := 7) rfl⟩), (List.forall_mem_cons.mpr ⟨(.inr ⟨_, _, _, _, rfl, .inl (List.mem_of_getElem? (i := 0) rfl)⟩), (fun _ h => by cases h)⟩)⟩) hw1 hw2
        exact (wk37 ho100 fn1 r1 r13  v5 v12 kk_1 hx9).mono fun res H2 ⟨qq_1, qq_2⟩ => ⟨qq_1, kk_2 _ qq_2⟩) (fun wm' res H hw' hp => ?_)
       obtain ⟨hres, hI⟩ := hp
       replace hres := hres.symm; subst hres
       replace hS : S wm 117 _ H ((101, .tuple #[.agg #[.int .i64 r14.n, .bool r14.char], .int .i64 r15]) :: _) ([.own rItem v12 r13, .box b1 [.bool v1.Char, v2, v3], .box b2 [.bool false, (.slice none 0 0), (.slice none 0 0)], .box b3 [.bool (v1.Char && (r10 == 1)), v8, v11], .own (rI .i64) v11 Data2, .fz (rI .i64) v2 v1.Shape, .fz (rI .i64) v3 v1.Data, .el (rClo 87) [v5] r1, .own (rI .i64) v8 r6]) Fr := (hS.put rfl _).withK hI
       clear hI hw'
       refine pp3 hS rfl rfl rfl rfl rfl rfl ?_; clear hS
       intro tm hS
       refine o_alloc hS (.inl rfl) rfl Fz72 (by decide) ?_; clear hS
       intro b4 tm H hS
       refine o_st (k := 0) hS (.inl rfl) rfl rfl rfl Fs72 rfl rfl (all_cons rfl (all_cons rfl all_nil)) rfl ?_; clear hS; try clear H
       intro H hS
       refine pp1 hS rfl rfl ?_; clear hS
       intro tm hS
       refine o_nil (hR _ _ ?_)
       clear hR R
       refine c_seqS ?_
       refine cr2 hS rfl rfl rfl rfl ?_; clear hS
       intro tm hS
       refine c_cond hS rfl (fun hc => ?_) (fun hc => ?_)
       ·replace h5 := iteT hc h5
        refine c_reg fun R hR => ?_
        refine o_build hS (.inl rfl) rfl Fb25 rfl .nil rfl ?_; clear hS
        intro tm hS
        refine pp1 hS rfl rfl ?_; clear hS
        intro tm hS
        refine o_st (k := 3) hS (.inl rfl) rfl rfl rfl Fs25 rfl rfl (all_cons rfl (all_cons rfl (all_cons rfl all_nil))) rfl ?_; clear hS; try clear H
        intro H hS
        refine pp1 hS rfl rfl ?_; clear hS
        intro tm hS
        refine o_nil (hR _ _ ?_)
        clear hR R
        refine wpC.ret ?_
        obtain rfl := Option.some.inj h5
        obtain rfl := hq5 _ rfl
        refine And.intro rfl ?_
        obtain rfl := leave h3
        obtain rfl := hq3 _ rfl
        refine And.intro rfl ?_
        obtain rfl := leave h0
        replace hS := hS.nilOwn (rI .i64)
        replace hS := hS.nilOwn (rI .i64)
        refine Exists.intro _ (And.intro (rs_cellA (k := 5) hS rfl rfl (.inl rfl) Fu25 rfl Fs25 rfl (rs_tmp hS rfl rs_nil)) ?_)
        have hI := hS.inv
        exact ⟨(.slice none 0 0), (.slice none 0 0), rfl, (((hI.pull 0 rfl).pull 1 rfl).take 2)⟩
       ·replace h5 := iteF hc h5
        refine wpC.skip ?_
        refine c_reg1 fun R hR => ?_
        refine pp1 hS rfl rfl ?_; clear hS
        intro tm hS
        refine o_ld1 (k := 4) hS (.inl rfl) rfl rfl rfl (.inl rfl) Fu23 rfl rfl ?_; clear hS
        intro tm hS
        refine pp1 hS rfl rfl ?_; clear hS
        intro tm hS
        refine o_ld1 (k := 0) hS (.inl rfl) rfl rfl rfl (.inl rfl) Fu2 rfl rfl ?_; clear hS
        intro tm hS
        refine o_lit (r := (rI .i64)) (l := [r14.n]) hS (.inl rfl) rfl Fl23 rfl rfl rfl (.cons rfl .nil) rfl rfl (ri_1 (rd_flat fun _ => rfl) ri_nil) rfl ?_; clear hS
        intro v13 tm H hS
        obtain ⟨l2, hx10, h5⟩ := bindS h5
        refine o_app (k1 := 6) (k2 := 0) (r := (rI .i64)) hS (.inl rfl) rfl rfl rfl rfl rfl (.inr (.inr rfl)) rfl Fe23_23 rfl hx10 ?_; clear hS
        intro v14 tm H hS
        refine pp1 hS rfl rfl ?_; clear hS
        intro tm hS
        refine o_st (k := 5) hS (.inl rfl) rfl rfl rfl Fs23 (cells_one (hS.one (k := 6) rfl (.inr (.inl rfl)))) rfl (all_cons (hS.one (k := 6) rfl (.inr (.inl rfl))) all_nil) rfl ?_; clear hS; try clear H
        intro H hS
        refine o_nil (hR _ _ ?_)
        clear hR R
        refine cs2 hS rfl rfl rfl rfl ?_; clear hS
        intro tm hS
        obtain rfl := Option.some.inj h5
        refine ⟨_, rfl, ?_⟩
        refine Exists.intro v14 ?_; change S wm 117 _ _ _ _ Fr; exact hS.keep (k12 rfl rfl rfl rfl rfl rfl rfl rfl rfl rfl rfl rfl) (fun hI => (hI.sub (sd (sd (sd (sc (sc (sc (sc (sc (sc (sc (sc sn)))))))))))))
      ·replace h5 := iteF hc h5
       refine wpC.exit ?_
       refine seqX ?_
       obtain rfl := Option.some.inj h5
       obtain rfl := hq5 _ rfl
       refine And.intro rfl (blk_eq ?_)
       replace h3 := joinN h3
       refine cs3 hS rfl rfl rfl rfl rfl rfl ?_; clear hS
       intro tm hS
       obtain rfl := Option.some.inj h3
       refine ⟨_, rfl, ?_⟩
       refine Exists.intro v11 ?_; change S wm 117 _ _ _ _ Fr; exact hS.keep (k10 rfl rfl rfl rfl rfl rfl rfl rfl rfl rfl) (fun hI => (hI.sub (sc (sc (sc (sc (sc (sc (sc (sc sn))))))))))
     ·replace h3 := iteF hc h3
      refine wpC.exit ?_
      refine seqX ?_
      obtain rfl := Option.some.inj h3
      obtain rfl := hq3 _ rfl
      refine And.intro rfl (blk_eq ?_)
      replace h0 := joinN h0
      refine c_reg fun R hR => ?_
      refine o_ldA (k := 2) hS (.inl rfl) rfl rfl rfl (.inl rfl) Fu25 rfl Fs25 rfl ?_; clear hS
      intro tm hS
      refine o_st (k := 1) hS (.inl rfl) rfl rfl rfl Fs25 rfl rfl (all_cons rfl (all_cons (hS.one (k := 7) rfl (.inr (.inl rfl))) (all_cons (hS.one (k := 3) rfl (.inr (.inl rfl))) all_nil))) rfl ?_; clear hS; try clear H
      intro H hS
      refine pp1 hS rfl rfl ?_; clear hS
      intro tm hS
      refine o_nil (hR _ _ ?_)
      clear hR R
      refine wpC.ret ?_
      obtain rfl := Option.some.inj h0
      refine Exists.intro _ (And.intro (rs_cellA (k := 1) hS rfl rfl (.inl rfl) Fu25 rfl Fs25 rfl (rs_tmp hS rfl rs_nil)) ?_)
      have hI := hS.inv
      exact ⟨v8, v10, rfl, (((hI.pull 3 rfl).pull 7 rfl).take 2)⟩
theorem wk20 {wm : Nat} {H : AHeap} {Fr : List Ent}  (n1 : Int)   (hI : Kn wm H [] Fr) {r : Val} (h0 : M.value_Scalar n1 = some r) :
  wpF Try.prog ora wm 20 [.int .i64 n1] H (fun res H => ∃ v2 v3, res = .agg #[.bool r.Char, v2, v3] ∧ Kn wm H [.own (rI .i64) v2 r.Shape, .own (rI .i64) v3 r.Data] Fr) := by
 unfold M.value_Scalar at h0
 refine f_enter (n := 6) Try.func20 rfl (by simp) hI rfl rfl rfl fun tm hS => ?_
 clear hI
 refine c_reg fun R hR => ?_
 refine o_alloc hS (.inl rfl) rfl Fz25 (by decide) ?_; clear hS
 intro b1 tm H hS
 refine o_nil (hR _ _ ?_)
 clear hR R
 refine c_reg fun R hR => ?_
 refine pp1 hS rfl rfl ?_; clear hS
 intro tm hS
 refine o_lit (r := (rI .i64)) (l := [n1]) hS (.inl rfl) rfl Fl23 rfl rfl rfl (.cons rfl .nil) rfl rfl (ri_1 (rd_flat fun _ => rfl) ri_nil) rfl ?_; clear hS
 intro v1 tm H hS
 refine o_build hS (.inl rfl) rfl Fb25 rfl (.cons (cells_one (hS.one (k := 0) rfl (.inr (.inr rfl)))) .nil) rfl ?_; clear hS
 intro tm hS
 refine o_st (k := 1) hS (.inl rfl) rfl rfl rfl Fs25 rfl rfl (all_cons rfl (all_cons rfl (all_cons (hS.one (k := 0) rfl (.inr (.inr rfl))) all_nil))) rfl ?_; clear hS; try clear H
 intro H hS
 refine o_nil (hR _ _ ?_)
 clear hR R
 refine wpC.ret ?_
 obtain rfl := Option.some.inj h0
 replace hS := hS.nilOwn (rI .i64)
 replace hS := hS.litOwn (k := 1) rfl
 refine Exists.intro _ (And.intro (rs_cellA (k := 2) hS rfl rfl (.inl rfl) Fu25 rfl Fs25 rfl rs_nil) ?_)
 have hI := hS.inv
 exact ⟨(.slice none 0 0), v1, rfl, (hI.sub (sc (sc sn)))⟩
theorem wk103 {wm : Nat} {H : AHeap} {Fr : List Ent}  (s1 : (List Am.Place)) (f1 : (Am.Place → Option (Bool))) (gfn1 : FuncId) (gcap1 : Array Value) (E : List Ent) (hE : ∀ e ∈ E, e.blk = none) (hf : ∀ {wm : Nat} {H : AHeap} {Fr : List Ent} (y0 : Am.Place) (v4 : Value) (v5 : Value), Kn wm H (.fz (rI .i64) v4 y0.V.Shape :: .fz (rI .i64) v5 y0.V.Data :: E) Fr → ∀ {r : Bool}, f1 y0 = some r → wpF Try.prog ora wm gfn1 ([.agg #[.bool y0.All, .bool y0.V.Char, v4, v5]] ++ gcap1.toList) H (fun res H => res = .bool r ∧ Kn wm H [] Fr)) (v1 : Value) (hI : Kn wm H (.fz rPlace v1 s1 :: E) Fr) {r : Int} (h0 : M.slices_IndexFunc__Place s1 f1 = some r) :
  wpF Try.prog ora wm 103 [v1, .func (.func gfn1) #[] gcap1] H (fun res H => res = .int .i64 r ∧ Kn wm H [] Fr) := by
 unfold M.slices_IndexFunc__Place at h0
 refine f_enter (n := 19) Try.func103 rfl (by simp) hI rfl rfl rfl fun tm hS => ?_
 clear hI
 refine cr1 hS rfl rfl ?_; clear hS
 intro tm hS
 refine c_seqS ?_
 refine c_reg fun R hR => ?_
 refine pp1 hS rfl rfl ?_; clear hS
 intro tm hS
 refine o_len (k := 0) (r := rPlace) hS (.inl rfl) rfl rfl rfl (.inl rfl) Fu51 rfl ?_; clear hS
 intro tm hS
 refine pp1 hS rfl rfl ?_; clear hS
 intro tm hS
 refine o_nil (hR _ _ ?_)
 clear hR R
 obtain ⟨k1, hw1, h0⟩ := bindS h0
 refine wpC.block ?_
 refine c_loop (I := fun (s : Int) tm H => match (generalizing := false) s with | t1 => S wm 19 tm H [(0, v1), (1, .func (.func gfn1) #[] gcap1), (7, .int .i64 (s1.length : Int)), (8, .int .i64 t1)] (.fz rPlace v1 s1 :: E) Fr) hw1 (by change S wm 19 _ _ _ _ Fr; exact hS.keep (k4 rfl rfl rfl rfl) (fun hI => (hI.sub (sc sr)))) ?_
 clear hS
 intro t1 tm H c1 hS h1 hq1
 change S wm 19 tm H [(0, v1), (1, .func (.func gfn1) #[] gcap1), (7, .int .i64 (s1.length : Int)), (8, .int .i64 t1)] (.fz rPlace v1 s1 :: E) Fr at hS
 refine cr1 hS rfl rfl ?_; clear hS
 intro tm hS
 refine c_seqS ?_
 refine c_cond hS rfl (fun hc => ?_) (fun hc => ?_)
 ·replace h1 := iteT hc h1
  refine wpC.skip ?_
  refine c_seqS ?_
  refine wpC.block ?_
  refine cr2 hS rfl rfl rfl rfl ?_; clear hS
  intro tm hS
  refine c_reg fun R hR => ?_
  refine pp3 hS rfl rfl rfl rfl rfl rfl ?_; clear hS
  intro tm hS
  obtain ⟨y1, hx1, h1⟩ := bindS h1
  refine o_ixA (k := 0) (r := rPlace) hS (.inl rfl) rfl rfl rfl rfl (.inl rfl) Fu51 Fs53 hx1 ?_; clear hS
  intro tm hS
  refine o_ldPlace (k := 0) hS (.inl rfl) rfl rfl rfl (.inl rfl) hx1 Fu53 rfl Fs53 rfl ?_; clear hS
  intro v2 v3 tm hS
  obtain ⟨r1, hx2, h1⟩ := bindS h1
  refine o_call hS (.inl rfl) rfl (fun wm' hw1 hw2 => hf y1 v2 v3 ((((hS.sel hw2).adAll hE (fun e he => List.mem_cons_of_mem _ (List.mem_cons_of_mem _ (List.mem_cons_of_mem _ (he))))).ad 1 rfl).ad 0 rfl) hx2) (fun wm' res H hw' hp => ?_)
  obtain ⟨hres, hI⟩ := hp
  replace hres := hres.symm; subst hres
  replace hS : S wm 19 _ H ((16, .bool r1) :: _) ([] ++ _) Fr := hS.after rfl hw' hI
  clear hI hw'
  refine o_nil (hR _ _ ?_)
  clear hR R
  refine c_cond hS rfl (fun hc => ?_) (fun hc => ?_)
  ·replace h1 := iteT hc h1
   refine cr2 hS rfl rfl rfl rfl ?_; clear hS
   intro tm hS
   refine wpC.ret ?_
   obtain rfl := Option.some.inj h1
   obtain rfl := hq1 _ rfl
   refine And.intro rfl ?_
   obtain rfl := leave h0
   refine Exists.intro _ (And.intro (rs_tmp hS rfl rs_nil) ?_)
   have hI := hS.inv
   exact ⟨rfl, (hI.sub sn)⟩
  ·replace h1 := iteF hc h1
   refine wpC.skip ?_
   refine cs2 hS rfl rfl rfl rfl ?_; clear hS
   intro tm hS
   obtain rfl := Option.some.inj h1
   refine ⟨_, rfl, ?_⟩
   change S wm 19 _ _ _ _ Fr; exact hS.keep (k4 rfl rfl rfl rfl) (fun hI => (hI.sub (sd (sd (sc sr)))))
 ·replace h1 := iteF hc h1
  refine wpC.exit ?_
  refine seqX ?_
  obtain rfl := Option.some.inj h1
  obtain rfl := hq1 _ rfl
  refine And.intro rfl (blk_eq ?_)
  replace h0 := joinN h0
  refine cr1 hS rfl rfl ?_; clear hS
  intro tm hS
  refine wpC.ret ?_
  obtain rfl := Option.some.inj h0
  refine Exists.intro _ (And.intro (rs_tmp hS rfl rs_nil) ?_)
  have hI := hS.inv
  exact ⟨rfl, (hI.sub sn)⟩
theorem wk95 {wm : Nat} {H : AHeap} {Fr : List Ent}  (s1 : (List Am.Place)) (f1 : (Am.Place → Option (Bool))) (gfn1 : FuncId) (gcap1 : Array Value) (E : List Ent) (hE : ∀ e ∈ E, e.blk = none) (hf : ∀ {wm : Nat} {H : AHeap} {Fr : List Ent} (y0 : Am.Place) (v2 : Value) (v3 : Value), Kn wm H (.fz (rI .i64) v2 y0.V.Shape :: .fz (rI .i64) v3 y0.V.Data :: E) Fr → ∀ {r : Bool}, f1 y0 = some r → wpF Try.prog ora wm gfn1 ([.agg #[.bool y0.All, .bool y0.V.Char, v2, v3]] ++ gcap1.toList) H (fun res H => res = .bool r ∧ Kn wm H [] Fr)) (v1 : Value) (hI : Kn wm H (.fz rPlace v1 s1 :: E) Fr) {r : Bool} (h0 : M.slices_ContainsFunc__Place s1 f1 = some r) :
  wpF Try.prog ora wm 95 [v1, .func (.func gfn1) #[] gcap1] H (fun res H => res = .bool r ∧ Kn wm H [] Fr) := by
 unfold M.slices_ContainsFunc__Place at h0
 refine f_enter (n := 9) Try.func95 rfl (by simp) hI rfl rfl rfl fun tm hS => ?_
 clear hI
 refine cr1 hS rfl rfl ?_; clear hS
 intro tm hS
 refine c_reg fun R hR => ?_
 refine pp2 hS rfl rfl rfl rfl ?_; clear hS
 intro tm hS
 obtain ⟨r1, hx1, h0⟩ := bindS h0
 refine o_call hS (.inl rfl) rfl (fun wm' hw1 hw2 => wk103  s1 f1 gfn1 gcap1 E hE hf v1 (((hS.sel hw2).adAll hE (fun e he => List.mem_cons_of_mem _ (he))).ad 0 rfl) hx1) (fun wm' res H hw' hp => ?_)
 obtain ⟨hres, hI⟩ := hp
 replace hres := hres.symm; subst hres
 replace hS : S wm 9 _ H ((7, .int .i64 r1) :: _) ([] ++ _) Fr := hS.after rfl hw' hI
 clear hI hw'
 refine pp2 hS rfl rfl rfl rfl ?_; clear hS
 intro tm hS
 refine o_nil (hR _ _ ?_)
 clear hR R
 refine wpC.ret ?_
 obtain rfl := Option.some.inj h0
 refine Exists.intro _ (And.intro (rs_tmp hS rfl rs_nil) ?_)
 have hI := hS.inv
 exact ⟨rfl, (hI.sub sn)⟩
theorem wk96 {wm : Nat} {H : AHeap} {Fr : List Ent}  (p1 : Am.Place)  (v1 : Value) (v2 : Value) (hI : Kn wm H [.fz (rI .i64) v1 p1.V.Shape, .fz (rI .i64) v2 p1.V.Data] Fr) {r : Bool} (h0 : M.index_shaped_1 p1 = some r) :
  wpF Try.prog ora wm 96 [.agg #[.bool p1.All, .bool p1.V.Char, v1, v2]] H (fun res H => res = .bool r ∧ Kn wm H [] Fr) := by
 unfold M.index_shaped_1 at h0
 refine f_enter (n := 12) Try.func96 rfl (by simp) hI rfl rfl rfl fun tm hS => ?_
 clear hI
 refine c_reg fun R hR => ?_
 refine o_box hS (.inl rfl) rfl rfl rfl (all_cons rfl (all_cons rfl (all_cons (hS.one (k := 0) rfl (.inl rfl)) (all_cons (hS.one (k := 1) rfl (.inl rfl)) all_nil)))) ?_; clear hS
 intro b1 tm H hS
 refine pp1 hS rfl rfl ?_; clear hS
 intro tm hS
 refine o_nil (hR _ _ ?_)
 clear hR R
 refine c_reg fun R hR => ?_
 refine pp1 hS rfl rfl ?_; clear hS
 intro tm hS
 refine o_ld1 (k := 0) hS (.inl rfl) rfl rfl rfl (.inl rfl) Fu4 rfl rfl ?_; clear hS
 intro tm hS
 refine pp2 hS rfl rfl rfl rfl ?_; clear hS
 intro tm hS
 obtain ⟨c1, hc1, h0⟩ := bindS h0
 refine o_cutN 5 (J := fun tm H => S wm 12 tm H [(11, .bool c1)] [] Fr) ?_ ?_
 ·rcases Bool.eq_false_or_eq_true (!p1.All) with hg1 | hg1
  ·replace hc1 := iteT hg1 hc1
   refine o_pure hS (.inr ⟨_, _, _, _, rfl, rfl, rfl, hg1⟩) rfl rfl ?_; clear hS
   intro tm hS
   refine o_ldA (k := 0) hS (.inr ⟨_, _, _, _, rfl, rfl, rfl, hg1⟩) rfl rfl rfl (.inl rfl) Fu25 rfl Fs25 rfl ?_; clear hS
   intro tm hS
   obtain ⟨r1, hx1, hc1⟩ := bindS hc1
   refine o_call hS (.inr ⟨_, _, _, _, rfl, rfl, rfl, hg1⟩) rfl (fun wm' hw1 hw2 => wk53  p1.V  v1 v2 (((hS.sel hw2).ad 2 rfl).ad 1 rfl) hx1) (fun wm' res H hw' hp => ?_)
   obtain ⟨hres, hI⟩ := hp
   replace hres := hres.symm; subst hres
   replace hS : S wm 12 _ H ((9, .bool r1) :: _) ([] ++ _) Fr := hS.after rfl hw' hI
   clear hI hw'
   refine o_pure hS (.inr ⟨_, _, _, _, rfl, rfl, rfl, hg1⟩) rfl rfl ?_; clear hS
   intro tm hS
   refine o_pickT hS (.inl rfl) rfl rfl hg1 rfl ?_; clear hS
   intro tm hS
   obtain rfl := Option.some.inj hc1
   exact o_nil (hS.keep (ka_cons rfl ka_nil) (fun hI => (hI.sub sn)))
  ·replace hc1 := iteF hg1 hc1
   refine o_skip hS rfl rfl rfl hg1 ?_; clear hS
   intro tm hS
   refine o_skip hS rfl rfl rfl hg1 ?_; clear hS
   intro tm hS
   refine o_skip hS rfl rfl rfl hg1 ?_; clear hS
   intro tm hS
   refine o_skip hS rfl rfl rfl hg1 ?_; clear hS
   intro tm hS
   refine o_pickF hS (.inl rfl) rfl rfl hg1 rfl ?_; clear hS
   intro tm hS
   obtain rfl := Option.some.inj hc1
   exact o_nil (hS.keep (ka_cons rfl ka_nil) (fun hI => (hI.sub sn)))
 intro tm H hS
 refine pp1 hS rfl rfl ?_; clear hS
 intro tm hS
 refine o_nil (hR _ _ ?_)
 clear hR R
 refine wpC.ret ?_
 obtain rfl := Option.some.inj h0
 refine Exists.intro _ (And.intro (rs_tmp hS rfl rs_nil) ?_)
 have hI := hS.inv
 exact ⟨rfl, (hI.sub sn)⟩
theorem wk97 {wm : Nat} {H : AHeap} {Fr : List Ent}  (p1 : Am.Place) (n1 : Int)  (v1 : Value) (v2 : Value) (hI : Kn wm H [.fz (rI .i64) v1 p1.V.Shape, .fz (rI .i64) v2 p1.V.Data] Fr) {r : (List Int)} (h0 : M.index_Place_lengths p1 n1 = some r) :
  wpF Try.prog ora wm 97 [.agg #[.bool p1.All, .bool p1.V.Char, v1, v2], .int .i64 n1] H (fun res H => ∃ v4, res = v4 ∧ Kn wm H [.fz (rI .i64) v4 r] Fr) := by
 unfold M.index_Place_lengths at h0
 refine f_enter (n := 12) Try.func97 rfl (by simp) hI rfl rfl rfl fun tm hS => ?_
 clear hI
 refine c_reg fun R hR => ?_
 refine o_box hS (.inl rfl) rfl rfl rfl (all_cons rfl (all_cons rfl (all_cons (hS.one (k := 0) rfl (.inl rfl)) (all_cons (hS.one (k := 1) rfl (.inl rfl)) all_nil)))) ?_; clear hS
 intro b1 tm H hS
 refine pp1 hS rfl rfl ?_; clear hS
 intro tm hS
 refine o_nil (hR _ _ ?_)
 clear hR R
 refine c_seqS ?_
 refine c_reg fun R hR => ?_
 refine pp1 hS rfl rfl ?_; clear hS
 intro tm hS
 refine o_ld1 (k := 0) hS (.inl rfl) rfl rfl rfl (.inl rfl) Fu4 rfl rfl ?_; clear hS
 intro tm hS
 refine o_nil (hR _ _ ?_)
 clear hR R
 refine c_cond hS rfl (fun hc => ?_) (fun hc => ?_)
 ·replace h0 := iteT hc h0
  refine c_reg fun R hR => ?_
  refine pp1 hS rfl rfl ?_; clear hS
  intro tm hS
  refine o_lit (r := (rI .i64)) (l := [n1]) hS (.inl rfl) rfl Fl22 rfl rfl rfl (.cons rfl .nil) rfl rfl (ri_1 (rd_flat fun _ => rfl) ri_nil) rfl ?_; clear hS
  intro v3 tm H hS
  refine pp1 hS rfl rfl ?_; clear hS
  intro tm hS
  refine o_nil (hR _ _ ?_)
  clear hR R
  refine wpC.ret ?_
  obtain rfl := Option.some.inj h0
  replace hS := hS.litFrz (k := 0) rfl
  refine Exists.intro _ (And.intro (rs_tmp hS rfl rs_nil) ?_)
  have hI := hS.inv
  exact ⟨v3, rfl, (hI.sub (sc sn))⟩
 ·replace h0 := iteF hc h0
  refine wpC.skip ?_
  refine c_reg fun R hR => ?_
  refine pp2 hS rfl rfl rfl rfl ?_; clear hS
  intro tm hS
  refine o_ld1 (k := 0) hS (.inl rfl) rfl rfl rfl (.inl rfl) Fu22 rfl rfl ?_; clear hS
  intro tm hS
  refine pp1 hS rfl rfl ?_; clear hS
  intro tm hS
  refine o_nil (hR _ _ ?_)
  clear hR R
  refine wpC.ret ?_
  obtain rfl := Option.some.inj h0
  refine Exists.intro _ (And.intro (rs_tmp hS rfl rs_nil) ?_)
  have hI := hS.inv
  exact ⟨v1, rfl, (hI.sub (sd (sc sn)))⟩
theorem wk78 {wm : Nat} {H : AHeap} {Fr : List Ent}  (v1 : Val) (places1 : (List Am.Place))  (v2 : Value) (v3 : Value) (v4 : Value) (hI : Kn wm H [.fz (rI .i64) v2 v1.Shape, .fz (rI .i64) v3 v1.Data, .fz rPlace v4 places1] Fr) {r : (List Int) × Int} (h0 : M.index_shaped v1 places1 = some r) :
  wpF Try.prog ora wm 78 [.agg #[.bool v1.Char, v2, v3], v4] H (fun res H => ∃ v11, res = .tuple #[v11, .int .i64 r.2] ∧ Kn wm H [.own (rI .i64) v11 r.1] Fr) := by
 unfold M.index_shaped at h0
 refine f_enter (n := 50) Try.func78 rfl (by simp) hI rfl rfl rfl fun tm hS => ?_
 clear hI
 refine c_reg fun R hR => ?_
 refine o_box hS (.inl rfl) rfl rfl rfl (all_cons rfl (all_cons (hS.one (k := 0) rfl (.inl rfl)) (all_cons (hS.one (k := 1) rfl (.inl rfl)) all_nil))) ?_; clear hS
 intro b1 tm H hS
 refine pp2 hS rfl rfl rfl rfl ?_; clear hS
 intro tm hS
 refine o_nil (hR _ _ ?_)
 clear hR R
 refine c_seqS ?_
 refine c_reg fun R hR => ?_
 refine o_ldA (k := 0) hS (.inl rfl) rfl rfl rfl (.inl rfl) Fu25 rfl Fs25 rfl ?_; clear hS
 intro tm hS
 obtain ⟨r1, hx1, h0⟩ := bindS h0
 refine o_call hS (.inl rfl) rfl (fun wm' hw1 hw2 => wk53  v1  v2 v3 (((hS.sel hw2).ad 2 rfl).ad 1 rfl) hx1) (fun wm' res H hw' hp => ?_)
 obtain ⟨hres, hI⟩ := hp
 replace hres := hres.symm; subst hres
 replace hS : S wm 50 _ H ((10, .bool r1) :: _) ([] ++ _) Fr := hS.after rfl hw' hI
 clear hI hw'
 refine pp2 hS rfl rfl rfl rfl ?_; clear hS
 intro tm hS
 obtain ⟨c1, hc1, h0⟩ := bindS h0
 refine o_cutN 3 (J := fun tm H => S wm 50 tm H [(15, .bool c1), (1, v4), (2, .pointer (some ⟨b1, 0, none⟩))] [.box b1 [.bool v1.Char, v2, v3], .fz (rI .i64) v2 v1.Shape, .fz (rI .i64) v3 v1.Data, .fz rPlace v4 places1] Fr) ?_ ?_
 ·rcases Bool.eq_false_or_eq_true (!r1) with hg1 | hg1
  ·replace hc1 := iteT hg1 hc1
   refine o_skip hS rfl rfl rfl hg1 ?_; clear hS
   intro tm hS
   refine o_skip hS rfl rfl rfl hg1 ?_; clear hS
   intro tm hS
   refine o_pickT hS (.inl rfl) rfl rfl hg1 rfl ?_; clear hS
   intro tm hS
   obtain rfl := Option.some.inj hc1
   exact o_nil (hS.keep (k3 rfl rfl rfl) (fun hI => (hI.sub (sc (sc (sc (sc sn)))))))
  ·replace hc1 := iteF hg1 hc1
   refine o_pure hS (.inr ⟨_, _, _, _, rfl, rfl, rfl, hg1⟩) rfl rfl ?_; clear hS
   intro tm hS
   obtain ⟨r2, hx2, hc1⟩ := bindS hc1
   refine o_call hS (.inr ⟨_, _, _, _, rfl, rfl, rfl, hg1⟩) rfl (fun wm' hw1 hw2 => wk95  places1 (fun x0 => M.index_shaped_1 x0) 96 #[] [] (by simp [Ent.blk]) (fun x0 u0_0 u0_1 hI _ h0 => wk96  x0  u0_0 u0_1 hI h0) v4 ((hS.sel hw2).ad 3 rfl) hx2) (fun wm' res H hw' hp => ?_)
   obtain ⟨hres, hI⟩ := hp
   replace hres := hres.symm; subst hres
   replace hS : S wm 50 _ H ((14, .bool r2) :: _) ([] ++ _) Fr := hS.after rfl hw' hI
   clear hI hw'
   refine o_pickF hS (.inl rfl) rfl rfl hg1 rfl ?_; clear hS
   intro tm hS
   obtain rfl := Option.some.inj hc1
   exact o_nil (hS.keep (k3 rfl rfl rfl) (fun hI => (hI.sub (sc (sc (sc (sc sn)))))))
 intro tm H hS
 refine o_nil (hR _ _ ?_)
 clear hR R
 refine c_cond hS rfl (fun hc => ?_) (fun hc => ?_)
 ·replace h0 := iteT hc h0
  refine cr2 hS rfl rfl rfl rfl ?_; clear hS
  intro tm hS
  refine wpC.ret ?_
  obtain rfl := Option.some.inj h0
  replace hS := hS.nilOwn (rI .i64)
  refine Exists.intro _ (And.intro (rs_tmp hS rfl (rs_tmp hS rfl rs_nil)) ?_)
  have hI := hS.inv
  exact ⟨(.slice none 0 0), rfl, (hI.sub (sc sn))⟩
 ·replace h0 := iteF hc h0
  refine wpC.skip ?_
  refine c_seqS ?_
  refine c_reg fun R hR => ?_
  refine pp1 hS rfl rfl ?_; clear hS
  intro tm hS
  refine o_ld1 (k := 0) hS (.inl rfl) rfl rfl rfl (.inl rfl) Fu22 rfl rfl ?_; clear hS
  intro tm hS
  refine o_len (k := 1) (r := (rI .i64)) hS (.inl rfl) rfl rfl rfl (.inl rfl) Fu22 rfl ?_; clear hS
  intro tm hS
  refine pp2 hS rfl rfl rfl rfl ?_; clear hS
  intro tm hS
  obtain ⟨c2, hc2⟩ : ∃ x : Bool, x = (((v1.Shape.length : Int) == 0) || ((places1.length : Int) != (v1.Shape.length : Int))) := ⟨_, rfl⟩
  refine o_cutN 7 (J := fun tm H => S wm 50 tm H [(27, .bool c2), (1, v4), (2, .pointer (some ⟨b1, 0, none⟩))] [.box b1 [.bool v1.Char, v2, v3], .fz (rI .i64) v2 v1.Shape, .fz (rI .i64) v3 v1.Data, .fz rPlace v4 places1] Fr) ?_ ?_
  ·rcases Bool.eq_false_or_eq_true ((v1.Shape.length : Int) == 0) with hg2 | hg2
   ·refine o_skip hS rfl rfl rfl hg2 ?_; clear hS
    intro tm hS
    refine o_skip hS rfl rfl rfl hg2 ?_; clear hS
    intro tm hS
    refine o_skip hS rfl rfl rfl hg2 ?_; clear hS
    intro tm hS
    refine o_skip hS rfl rfl rfl hg2 ?_; clear hS
    intro tm hS
    refine o_skip hS rfl rfl rfl hg2 ?_; clear hS
    intro tm hS
    refine o_skip hS rfl rfl rfl hg2 ?_; clear hS
    intro tm hS
    refine o_pickT hS (.inl rfl) rfl rfl hg2 rfl ?_; clear hS
    intro tm hS
    have hc2 : c2 = true := hc2.trans (by rw [hg2]; first | rfl | simp)
    subst hc2
    exact o_nil (hS.keep (k3 rfl rfl rfl) (fun hI => (hI.sub (sc (sc (sc (sc sn)))))))
   ·refine o_pure hS (.inr ⟨_, _, _, _, rfl, rfl, rfl, hg2⟩) rfl rfl ?_; clear hS
    intro tm hS
    refine o_len (k := 3) (r := rPlace) hS (.inr ⟨_, _, _, _, rfl, rfl, rfl, hg2⟩) rfl rfl rfl (.inl rfl) Fu51 rfl ?_; clear hS
    intro tm hS
    refine o_pure hS (.inr ⟨_, _, _, _, rfl, rfl, rfl, hg2⟩) rfl rfl ?_; clear hS
    intro tm hS
    refine o_ld1 (k := 0) hS (.inr ⟨_, _, _, _, rfl, rfl, rfl, hg2⟩) rfl rfl rfl (.inl rfl) Fu22 rfl rfl ?_; clear hS
    intro tm hS
    refine o_len (k := 1) (r := (rI .i64)) hS (.inr ⟨_, _, _, _, rfl, rfl, rfl, hg2⟩) rfl rfl rfl (.inl rfl) Fu22 rfl ?_; clear hS
    intro tm hS
    refine o_pure hS (.inr ⟨_, _, _, _, rfl, rfl, rfl, hg2⟩) rfl rfl ?_; clear hS
    intro tm hS
    refine o_pickF hS (.inl rfl) rfl rfl hg2 rfl ?_; clear hS
    intro tm hS
    have hc2 : c2 = ((places1.length : Int) != (v1.Shape.length : Int)) := hc2.trans (by rw [hg2]; first | rfl | simp)
    subst hc2
    exact o_nil (hS.keep (k3 rfl rfl rfl) (fun hI => (hI.sub (sc (sc (sc (sc sn)))))))
  intro tm H hS
  subst hc2
  refine o_nil (hR _ _ ?_)
  clear hR R
  refine c_cond hS rfl (fun hc => ?_) (fun hc => ?_)
  ·replace h0 := iteT hc h0
   refine cr2 hS rfl rfl rfl rfl ?_; clear hS
   intro tm hS
   refine wpC.ret ?_
   obtain rfl := Option.some.inj h0
   replace hS := hS.nilOwn (rI .i64)
   refine Exists.intro _ (And.intro (rs_tmp hS rfl (rs_tmp hS rfl rs_nil)) ?_)
   have hI := hS.inv
   exact ⟨(.slice none 0 0), rfl, (hI.sub (sc sn))⟩
  ·replace h0 := iteF hc h0
   refine wpC.skip ?_
   refine c_reg fun R hR => ?_
   refine o_lit (r := (rI .i64)) (l := ([] : List Int)) hS (.inl rfl) rfl Fl22 rfl rfl rfl .nil rfl rfl ri_nil rfl ?_; clear hS
   intro v5 tm H hS
   refine pp1 hS rfl rfl ?_; clear hS
   intro tm hS
   refine o_nil (hR _ _ ?_)
   clear hR R
   refine c_seqS ?_
   refine c_reg fun R hR => ?_
   refine pp1 hS rfl rfl ?_; clear hS
   intro tm hS
   refine o_len (k := 4) (r := rPlace) hS (.inl rfl) rfl rfl rfl (.inl rfl) Fu51 rfl ?_; clear hS
   intro tm hS
   refine pp1 hS rfl rfl ?_; clear hS
   intro tm hS
   refine o_nil (hR _ _ ?_)
   clear hR R
   obtain ⟨k1, hw1, h0⟩ := bindS h0
   refine wpC.block ?_
   replace hS := hS.litOwn (k := 0) rfl
   refine c_loop (I := fun (s : (List Int) × Int) tm H => match (generalizing := false) s with | (s1, t1) => ∃ v6, S wm 50 tm H [(2, .pointer (some ⟨b1, 0, none⟩)), (6, v6), (29, v4), (30, .int .i64 (places1.length : Int)), (31, .int .i64 t1)] [.box b1 [.bool v1.Char, v2, v3], .own (rI .i64) v6 s1, .fz (rI .i64) v2 v1.Shape, .fz (rI .i64) v3 v1.Data, .fz rPlace v4 places1] Fr) hw1 (by refine Exists.intro v5 ?_; change S wm 50 _ _ _ _ Fr; exact hS.keep (k5 rfl rfl rfl rfl rfl) (fun hI => ((((((hI.pull 4 rfl).pull 4 rfl).pull 4 rfl).pull 3 rfl).pull 4 rfl).take 5))) ?_
   clear hS
   intro s2 tm H c3 hS h1 hq1
   obtain ⟨s1, t1⟩ := s2
   obtain ⟨v6, hS⟩ := hS
   change S wm 50 tm H [(2, .pointer (some ⟨b1, 0, none⟩)), (6, v6), (29, v4), (30, .int .i64 (places1.length : Int)), (31, .int .i64 t1)] [.box b1 [.bool v1.Char, v2, v3], .own (rI .i64) v6 s1, .fz (rI .i64) v2 v1.Shape, .fz (rI .i64) v3 v1.Data, .fz rPlace v4 places1] Fr at hS
   refine cr1 hS rfl rfl ?_; clear hS
   intro tm hS
   refine c_seqS ?_
   refine c_cond hS rfl (fun hc => ?_) (fun hc => ?_)
   ·replace h1 := iteT hc h1
    refine wpC.skip ?_
    refine c_seqS ?_
    refine wpC.block ?_
    refine c_reg fun R hR => ?_
    refine pp1 hS rfl rfl ?_; clear hS
    intro tm hS
    obtain ⟨y1, hx3, h1⟩ := bindS h1
    refine o_ixA (k := 4) (r := rPlace) hS (.inl rfl) rfl rfl rfl rfl (.inl rfl) Fu51 Fs53 hx3 ?_; clear hS
    intro tm hS
    refine o_ldPlace (k := 4) hS (.inl rfl) rfl rfl rfl (.inl rfl) hx3 Fu53 rfl Fs53 rfl ?_; clear hS
    intro v7 v8 tm hS
    refine o_alloc hS (.inl rfl) rfl Fz53 (by decide) ?_; clear hS
    intro b2 tm H hS
    refine pp1 hS rfl rfl ?_; clear hS
    intro tm hS
    refine o_st (k := 0) hS (.inl rfl) rfl rfl rfl Fs53 rfl rfl (all_cons rfl (all_cons rfl (all_cons (hS.one (k := 1) rfl (.inl rfl)) (all_cons (hS.one (k := 2) rfl (.inl rfl)) all_nil)))) rfl ?_; clear hS; try clear H
    intro H hS
    refine o_nil (hR _ _ ?_)
    clear hR R
    refine c_reg1 fun R hR => ?_
    refine pp1 hS rfl rfl ?_; clear hS
    intro tm hS
    refine o_ldA (k := 0) hS (.inl rfl) rfl rfl rfl (.inl rfl) Fu53 rfl Fs53 rfl ?_; clear hS
    intro tm hS
    refine pp1 hS rfl rfl ?_; clear hS
    intro tm hS
    refine o_ld1 (k := 3) hS (.inl rfl) rfl rfl rfl (.inl rfl) Fu22 rfl rfl ?_; clear hS
    intro tm hS
    refine pp1 hS rfl rfl ?_; clear hS
    intro tm hS
    obtain ⟨y2, hx4, h1⟩ := bindS h1
    refine o_ixA (k := 5) (r := (rI .i64)) hS (.inl rfl) rfl rfl rfl rfl (.inl rfl) Fu22 Fs3 hx4 ?_; clear hS
    intro tm hS
    refine o_ldF (r := (rI .i64)) (k := 5) hS (.inl rfl) rfl rfl rfl (.inl rfl) hx4 Fu3 rfl (flat_I _) rfl ?_; clear hS
    intro tm hS
    obtain ⟨r3, hx5, h1⟩ := bindS h1
    refine o_call hS (.inl rfl) rfl (fun wm' hw1 hw2 => wk97  y1 y2  v7 v8 (((hS.sel hw2).ad 2 rfl).ad 1 rfl) hx5) (fun wm' res H hw' hp => ?_)
    obtain ⟨v9, hres, hI⟩ := hp
    replace hres := hres.symm; subst hres
    replace hS : S wm 50 _ H ((43, v9) :: _) ([.fz (rI .i64) v9 r3] ++ _) Fr := hS.after rfl hw' hI
    clear hI hw'
    obtain ⟨l1, hx6, h1⟩ := bindS h1
    refine o_app (k1 := 5) (k2 := 0) (r := (rI .i64)) hS (.inl rfl) rfl rfl rfl rfl rfl (.inl rfl) rfl Fe22_22 rfl hx6 ?_; clear hS
    intro v10 tm H hS
    refine pp1 hS rfl rfl ?_; clear hS
    intro tm hS
    refine o_nil (hR _ _ ?_)
    clear hR R
    refine cs2 hS rfl rfl rfl rfl ?_; clear hS
    intro tm hS
    obtain rfl := Option.some.inj h1
    refine ⟨_, rfl, ?_⟩
    refine Exists.intro v10 ?_; change S wm 50 _ _ _ _ Fr; exact hS.keep (k5 rfl rfl rfl rfl rfl) (fun hI => (hI.sub (sd (sd (sd (sd (sc (sc (sc (sc (sc sn)))))))))))
   ·replace h1 := iteF hc h1
    refine wpC.exit ?_
    refine seqX ?_
    obtain rfl := Option.some.inj h1
    obtain rfl := hq1 _ rfl
    refine And.intro rfl (blk_eq ?_)
    replace h0 := joinN h0
    refine c_seqS ?_
    refine c_reg fun R hR => ?_
    refine pp1 hS rfl rfl ?_; clear hS
    intro tm hS
    refine o_len (k := 1) (r := (rI .i64)) hS (.inl rfl) rfl rfl rfl (.inr (.inl rfl)) Fu22 rfl ?_; clear hS
    intro tm hS
    refine pp1 hS rfl rfl ?_; clear hS
    intro tm hS
    refine o_nil (hR _ _ ?_)
    clear hR R
    refine c_cond hS rfl (fun hc => ?_) (fun hc => ?_)
    ·replace h0 := iteT hc h0
     refine cr2 hS rfl rfl rfl rfl ?_; clear hS
     intro tm hS
     refine wpC.ret ?_
     obtain rfl := Option.some.inj h0
     replace hS := hS.nilOwn (rI .i64)
     refine Exists.intro _ (And.intro (rs_tmp hS rfl (rs_tmp hS rfl rs_nil)) ?_)
     have hI := hS.inv
     exact ⟨(.slice none 0 0), rfl, (hI.sub (sc sn))⟩
    ·replace h0 := iteF hc h0
     refine wpC.skip ?_
     refine cr3 hS rfl rfl rfl rfl rfl rfl ?_; clear hS
     intro tm hS
     refine wpC.ret ?_
     obtain rfl := Option.some.inj h0
     refine Exists.intro _ (And.intro (rs_tmp hS rfl (rs_tmp hS rfl rs_nil)) ?_)
     have hI := hS.inv
     exact ⟨v6, rfl, (hI.sub (sd (sc sn)))⟩
theorem wk79 {wm : Nat} {H : AHeap} {Fr : List Ent}  (p1 : Am.Place) (n1 : Int)  (v1 : Value) (v2 : Value) (hI : Kn wm H [.fz (rI .i64) v1 p1.V.Shape, .fz (rI .i64) v2 p1.V.Data] Fr) {r : (List Int) × Int} (h0 : M.index_Place_indexes p1 n1 = some r) :
  wpF Try.prog ora wm 79 [.agg #[.bool p1.All, .bool p1.V.Char, v1, v2], .int .i64 n1] H (fun res H => ∃ v9, res = .tuple #[v9, .int .i64 r.2] ∧ Kn wm H [.own (rI .i64) v9 r.1] Fr) := by
 unfold M.index_Place_indexes at h0
 refine f_enter (n := 54) Try.func79 rfl (by simp) hI rfl rfl rfl fun tm hS => ?_
 clear hI
 refine c_reg fun R hR => ?_
 refine o_box hS (.inl rfl) rfl rfl rfl (all_cons rfl (all_cons rfl (all_cons (hS.one (k := 0) rfl (.inl rfl)) (all_cons (hS.one (k := 1) rfl (.inl rfl)) all_nil)))) ?_; clear hS
 intro b1 tm H hS
 refine pp2 hS rfl rfl rfl rfl ?_; clear hS
 intro tm hS
 refine o_nil (hR _ _ ?_)
 clear hR R
 refine cr1 hS rfl rfl ?_; clear hS
 intro tm hS
 refine c_seqS ?_
 refine c_reg fun R hR => ?_
 refine pp1 hS rfl rfl ?_; clear hS
 intro tm hS
 refine o_ld1 (k := 0) hS (.inl rfl) rfl rfl rfl (.inl rfl) Fu4 rfl rfl ?_; clear hS
 intro tm hS
 refine o_nil (hR _ _ ?_)
 clear hR R
 refine c_cond hS rfl (fun hc => ?_) (fun hc => ?_)
 ·replace h0 := iteT hc h0
  refine c_seqS ?_
  refine cr2 hS rfl rfl rfl rfl ?_; clear hS
  intro tm hS
  obtain ⟨k1, hw1, h0⟩ := bindS h0
  refine wpC.block ?_
  replace hS := hS.nilOwn (rI .i64)
  refine c_loop (I := fun (s : (List Int) × Int) tm H => match (generalizing := false) s with | (out1, t1) => ∃ v3, S wm 54 tm H [(6, v3), (12, .int .i64 n1), (13, .int .i64 t1)] [.own (rI .i64) v3 out1] Fr) hw1 (by refine Exists.intro (.slice none 0 0) ?_; change S wm 54 _ _ _ _ Fr; exact hS.keep (k3 rfl rfl rfl) (fun hI => (hI.sub (sc sn)))) ?_
  clear hS
  intro s1 tm H c1 hS h1 hq1
  obtain ⟨out1, t1⟩ := s1
  obtain ⟨v3, hS⟩ := hS
  change S wm 54 tm H [(6, v3), (12, .int .i64 n1), (13, .int .i64 t1)] [.own (rI .i64) v3 out1] Fr at hS
  refine cr1 hS rfl rfl ?_; clear hS
  intro tm hS
  refine c_seqS ?_
  refine c_cond hS rfl (fun hc => ?_) (fun hc => ?_)
  ·replace h1 := iteT hc h1
   refine wpC.skip ?_
   refine c_seqS ?_
   refine wpC.block ?_
   refine cr2 hS rfl rfl rfl rfl ?_; clear hS
   intro tm hS
   refine c_reg1 fun R hR => ?_
   refine pp2 hS rfl rfl rfl rfl ?_; clear hS
   intro tm hS
   refine o_lit (r := (rI .i64)) (l := [t1]) hS (.inl rfl) rfl Fl22 rfl rfl rfl (.cons rfl .nil) rfl rfl (ri_1 (rd_flat fun _ => rfl) ri_nil) rfl ?_; clear hS
   intro v4 tm H hS
   obtain ⟨l1, hx1, h1⟩ := bindS h1
   refine o_app (k1 := 1) (k2 := 0) (r := (rI .i64)) hS (.inl rfl) rfl rfl rfl rfl rfl (.inr (.inr rfl)) rfl Fe22_22 rfl hx1 ?_; clear hS
   intro v5 tm H hS
   refine pp1 hS rfl rfl ?_; clear hS
   intro tm hS
   refine o_nil (hR _ _ ?_)
   clear hR R
   refine cs2 hS rfl rfl rfl rfl ?_; clear hS
   intro tm hS
   obtain rfl := Option.some.inj h1
   refine ⟨_, rfl, ?_⟩
   refine Exists.intro v5 ?_; change S wm 54 _ _ _ _ Fr; exact hS.keep (k3 rfl rfl rfl) (fun hI => (hI.sub (sd (sc sn))))
  ·replace h1 := iteF hc h1
   refine wpC.exit ?_
   refine seqX ?_
   obtain rfl := Option.some.inj h1
   obtain rfl := hq1 _ rfl
   refine And.intro rfl (blk_eq ?_)
   replace h0 := joinN h0
   refine cr3 hS rfl rfl rfl rfl rfl rfl ?_; clear hS
   intro tm hS
   refine wpC.ret ?_
   obtain rfl := Option.some.inj h0
   refine Exists.intro _ (And.intro (rs_tmp hS rfl (rs_tmp hS rfl rs_nil)) ?_)
   have hI := hS.inv
   exact ⟨v3, rfl, (hI.sub (sc sn))⟩
 ·replace h0 := iteF hc h0
  refine wpC.skip ?_
  refine c_seqS ?_
  refine c_reg fun R hR => ?_
  refine pp2 hS rfl rfl rfl rfl ?_; clear hS
  intro tm hS
  refine o_ld1 (k := 0) hS (.inl rfl) rfl rfl rfl (.inl rfl) Fu4 rfl rfl ?_; clear hS
  intro tm hS
  refine pp1 hS rfl rfl ?_; clear hS
  intro tm hS
  obtain ⟨c2, hc1⟩ : ∃ x : Bool, x = (p1.V.Char && (decide ((p1.V.Data.length : Int) > 0))) := ⟨_, rfl⟩
  refine o_cutN 6 (J := fun tm H => S wm 54 tm H [(31, .bool c2), (1, .int .i64 n1), (2, .pointer (some ⟨b1, 0, none⟩)), (6, (.slice none 0 0))] [.box b1 [.bool p1.All, .bool p1.V.Char, v1, v2], .fz (rI .i64) v1 p1.V.Shape, .fz (rI .i64) v2 p1.V.Data] Fr) ?_ ?_
  ·rcases Bool.eq_false_or_eq_true p1.V.Char with hg1 | hg1
   ·refine o_pure hS (.inr ⟨_, _, _, _, rfl, rfl, rfl, hg1⟩) rfl rfl ?_; clear hS
    intro tm hS
    refine o_pure hS (.inr ⟨_, _, _, _, rfl, rfl, rfl, hg1⟩) rfl rfl ?_; clear hS
    intro tm hS
    refine o_ld1 (k := 0) hS (.inr ⟨_, _, _, _, rfl, rfl, rfl, hg1⟩) rfl rfl rfl (.inl rfl) Fu23 rfl rfl ?_; clear hS
    intro tm hS
    refine o_len (k := 2) (r := (rI .i64)) hS (.inr ⟨_, _, _, _, rfl, rfl, rfl, hg1⟩) rfl rfl rfl (.inl rfl) Fu23 rfl ?_; clear hS
    intro tm hS
    refine o_pure hS (.inr ⟨_, _, _, _, rfl, rfl, rfl, hg1⟩) rfl rfl ?_; clear hS
    intro tm hS
    refine o_pickT hS (.inl rfl) rfl rfl hg1 rfl ?_; clear hS
    intro tm hS
    have hc1 : c2 = (decide ((p1.V.Data.length : Int) > 0)) := hc1.trans (by rw [hg1]; first | rfl | simp)
    subst hc1
    exact o_nil (hS.keep (k4 rfl rfl rfl rfl) (fun hI => (hI.sub (sc (sc (sc sn))))))
   ·refine o_skip hS rfl rfl rfl hg1 ?_; clear hS
    intro tm hS
    refine o_skip hS rfl rfl rfl hg1 ?_; clear hS
    intro tm hS
    refine o_skip hS rfl rfl rfl hg1 ?_; clear hS
    intro tm hS
    refine o_skip hS rfl rfl rfl hg1 ?_; clear hS
    intro tm hS
    refine o_skip hS rfl rfl rfl hg1 ?_; clear hS
    intro tm hS
    refine o_pickF hS (.inl rfl) rfl rfl hg1 rfl ?_; clear hS
    intro tm hS
    have hc1 : c2 = false := hc1.trans (by rw [hg1]; first | rfl | simp)
    subst hc1
    exact o_nil (hS.keep (k4 rfl rfl rfl rfl) (fun hI => (hI.sub (sc (sc (sc sn))))))
  intro tm H hS
  subst hc1
  refine o_nil (hR _ _ ?_)
  clear hR R
  refine c_cond hS rfl (fun hc => ?_) (fun hc => ?_)
  ·replace h0 := iteT hc h0
   refine cr2 hS rfl rfl rfl rfl ?_; clear hS
   intro tm hS
   refine wpC.ret ?_
   obtain rfl := Option.some.inj h0
   replace hS := hS.nilOwn (rI .i64)
   refine Exists.intro _ (And.intro (rs_tmp hS rfl (rs_tmp hS rfl rs_nil)) ?_)
   have hI := hS.inv
   exact ⟨(.slice none 0 0), rfl, (hI.sub (sc sn))⟩
  ·replace h0 := iteF hc h0
   refine wpC.skip ?_
   refine c_seqS ?_
   refine c_reg fun R hR => ?_
   refine pp2 hS rfl rfl rfl rfl ?_; clear hS
   intro tm hS
   refine o_ld1 (k := 0) hS (.inl rfl) rfl rfl rfl (.inl rfl) Fu23 rfl rfl ?_; clear hS
   intro tm hS
   refine o_len (k := 2) (r := (rI .i64)) hS (.inl rfl) rfl rfl rfl (.inl rfl) Fu23 rfl ?_; clear hS
   intro tm hS
   refine pp1 hS rfl rfl ?_; clear hS
   intro tm hS
   refine o_nil (hR _ _ ?_)
   clear hR R
   obtain ⟨k2, hw2, h0⟩ := bindS h0
   refine wpC.block ?_
   replace hS := hS.nilOwn (rI .i64)
   refine c_loop (I := fun (s : (List Int) × Int) tm H => match (generalizing := false) s with | (out2, t2) => ∃ v6, S wm 54 tm H [(1, .int .i64 n1), (6, v6), (34, v2), (35, .int .i64 (p1.V.Data.length : Int)), (36, .int .i64 t2)] [.own (rI .i64) v6 out2, .fz (rI .i64) v2 p1.V.Data] Fr) hw2 (by refine Exists.intro (.slice none 0 0) ?_; change S wm 54 _ _ _ _ Fr; exact hS.keep (k5 rfl rfl rfl rfl rfl) (fun hI => (hI.sub (sc (sd (sd (sc sn))))))) ?_
   clear hS
   intro s2 tm H c3 hS h2 hq2
   obtain ⟨out2, t2⟩ := s2
   obtain ⟨v6, hS⟩ := hS
   change S wm 54 tm H [(1, .int .i64 n1), (6, v6), (34, v2), (35, .int .i64 (p1.V.Data.length : Int)), (36, .int .i64 t2)] [.own (rI .i64) v6 out2, .fz (rI .i64) v2 p1.V.Data] Fr at hS
   refine cr1 hS rfl rfl ?_; clear hS
   intro tm hS
   refine c_seqS ?_
   refine c_cond hS rfl (fun hc => ?_) (fun hc => ?_)
   ·replace h2 := iteT hc h2
    refine wpC.skip ?_
    refine c_seqS ?_
    refine wpC.block ?_
    refine c_reg fun R hR => ?_
    obtain ⟨y1, hx2, h2⟩ := bindS h2
    refine o_ixA (k := 1) (r := (rI .i64)) hS (.inl rfl) rfl rfl rfl rfl (.inl rfl) Fu23 Fs2 hx2 ?_; clear hS
    intro tm hS
    refine o_ldF (r := (rI .i64)) (k := 1) hS (.inl rfl) rfl rfl rfl (.inl rfl) hx2 Fu2 rfl (flat_I _) rfl ?_; clear hS
    intro tm hS
    refine pp1 hS rfl rfl ?_; clear hS
    intro tm hS
    refine o_nil (hR _ _ ?_)
    clear hR R
    refine c_seqS ?_
    refine c_reg fun R hR => ?_
    refine pp3 hS rfl rfl rfl rfl rfl rfl ?_; clear hS
    intro tm hS
    obtain ⟨c4, hc2⟩ : ∃ x : Bool, x = ((decide (y1 < 1)) || (decide (y1 > n1))) := ⟨_, rfl⟩
    refine o_cutN 4 (J := fun tm H => S wm 54 tm H [(46, .bool c4), (1, .int .i64 n1), (6, v6), (34, v2), (35, .int .i64 (p1.V.Data.length : Int)), (36, .int .i64 t2), (9, .int .i64 y1)] [.own (rI .i64) v6 out2, .fz (rI .i64) v2 p1.V.Data] Fr) ?_ ?_
    ·rcases Bool.eq_false_or_eq_true (decide (y1 < 1)) with hg2 | hg2
     ·refine o_skip hS rfl rfl rfl hg2 ?_; clear hS
      intro tm hS
      refine o_skip hS rfl rfl rfl hg2 ?_; clear hS
      intro tm hS
      refine o_skip hS rfl rfl rfl hg2 ?_; clear hS
      intro tm hS
      refine o_pickT hS (.inl rfl) rfl rfl hg2 rfl ?_; clear hS
      intro tm hS
      have hc2 : c4 = true := hc2.trans (by rw [hg2]; first | rfl | simp)
      subst hc2
      exact o_nil (hS.keep (k7 rfl rfl rfl rfl rfl rfl rfl) (fun hI => (hI.sub (sc (sc sn)))))
     ·refine o_pure hS (.inr ⟨_, _, _, _, rfl, rfl, rfl, hg2⟩) rfl rfl ?_; clear hS
      intro tm hS
      refine o_pure hS (.inr ⟨_, _, _, _, rfl, rfl, rfl, hg2⟩) rfl rfl ?_; clear hS
      intro tm hS
      refine o_pure hS (.inr ⟨_, _, _, _, rfl, rfl, rfl, hg2⟩) rfl rfl ?_; clear hS
      intro tm hS
      refine o_pickF hS (.inl rfl) rfl rfl hg2 rfl ?_; clear hS
      intro tm hS
      have hc2 : c4 = (decide (y1 > n1)) := hc2.trans (by rw [hg2]; first | rfl | simp)
      subst hc2
      exact o_nil (hS.keep (k7 rfl rfl rfl rfl rfl rfl rfl) (fun hI => (hI.sub (sc (sc sn)))))
    intro tm H hS
    subst hc2
    refine o_nil (hR _ _ ?_)
    clear hR R
    refine c_cond hS rfl (fun hc => ?_) (fun hc => ?_)
    ·replace h2 := iteT hc h2
     refine cr2 hS rfl rfl rfl rfl ?_; clear hS
     intro tm hS
     refine wpC.ret ?_
     obtain rfl := Option.some.inj h2
     obtain rfl := hq2 _ rfl
     refine And.intro rfl ?_
     obtain rfl := leave h0
     replace hS := hS.nilOwn (rI .i64)
     refine Exists.intro _ (And.intro (rs_tmp hS rfl (rs_tmp hS rfl rs_nil)) ?_)
     have hI := hS.inv
     exact ⟨(.slice none 0 0), rfl, (hI.sub (sc sn))⟩
    ·replace h2 := iteF hc h2
     refine wpC.skip ?_
     refine c_reg1 fun R hR => ?_
     refine pp3 hS rfl rfl rfl rfl rfl rfl ?_; clear hS
     intro tm hS
     refine o_lit (r := (rI .i64)) (l := [(IntKind.i64.wrap (y1 - 1))]) hS (.inl rfl) rfl Fl22 rfl rfl rfl (.cons rfl .nil) rfl rfl (ri_1 (rd_flat fun _ => rfl) ri_nil) rfl ?_; clear hS
     intro v7 tm H hS
     obtain ⟨l2, hx3, h2⟩ := bindS h2
     refine o_app (k1 := 1) (k2 := 0) (r := (rI .i64)) hS (.inl rfl) rfl rfl rfl rfl rfl (.inr (.inr rfl)) rfl Fe22_22 rfl hx3 ?_; clear hS
     intro v8 tm H hS
     refine pp1 hS rfl rfl ?_; clear hS
     intro tm hS
     refine o_nil (hR _ _ ?_)
     clear hR R
     refine cs2 hS rfl rfl rfl rfl ?_; clear hS
     intro tm hS
     obtain rfl := Option.some.inj h2
     refine ⟨_, rfl, ?_⟩
     refine Exists.intro v8 ?_; change S wm 54 _ _ _ _ Fr; exact hS.keep (k5 rfl rfl rfl rfl rfl) (fun hI => (hI.sub (sd (sc (sc sn)))))
   ·replace h2 := iteF hc h2
    refine wpC.exit ?_
    refine seqX ?_
    obtain rfl := Option.some.inj h2
    obtain rfl := hq2 _ rfl
    refine And.intro rfl (blk_eq ?_)
    replace h0 := joinN h0
    refine cr3 hS rfl rfl rfl rfl rfl rfl ?_; clear hS
    intro tm hS
    refine wpC.ret ?_
    obtain rfl := Option.some.inj h0
    refine Exists.intro _ (And.intro (rs_tmp hS rfl (rs_tmp hS rfl rs_nil)) ?_)
    have hI := hS.inv
    exact ⟨v6, rfl, (hI.sub (sc sn))⟩
theorem wk51 {wm : Nat} {H : AHeap} {Fr : List Ent}  (v1 : Val) (places1 : (List Am.Place))  (v2 : Value) (v3 : Value) (v4 : Value) (hI : Kn wm H [.fz (rI .i64) v2 v1.Shape, .fz (rI .i64) v3 v1.Data, .fz rPlace v4 places1] Fr) {r : Am.Found × Int} (h0 : M.index_finds v1 places1 = some r) :
  wpF Try.prog ora wm 51 [.agg #[.bool v1.Char, v2, v3], v4] H (fun res H => ∃ v20 v21, res = .tuple #[.agg #[v20, v21], .int .i64 r.2] ∧ Kn wm H [.own (rI .i64) v20 r.1.shape, .own (rI .i64) v21 r.1.offsets] Fr) := by
 unfold M.index_finds at h0
 refine f_enter (n := 110) Try.func51 rfl (by simp) hI rfl rfl rfl fun tm hS => ?_
 clear hI
 refine c_reg fun R hR => ?_
 refine o_box hS (.inl rfl) rfl rfl rfl (all_cons rfl (all_cons (hS.one (k := 0) rfl (.inl rfl)) (all_cons (hS.one (k := 1) rfl (.inl rfl)) all_nil))) ?_; clear hS
 intro b1 tm H hS
 refine o_alloc hS (.inl rfl) rfl Fz94 (by decide) ?_; clear hS
 intro b2 tm H hS
 refine pp1 hS rfl rfl ?_; clear hS
 intro tm hS
 refine o_nil (hR _ _ ?_)
 clear hR R
 refine c_reg fun R hR => ?_
 refine o_ldA (k := 1) hS (.inl rfl) rfl rfl rfl (.inl rfl) Fu25 rfl Fs25 rfl ?_; clear hS
 intro tm hS
 refine pp1 hS rfl rfl ?_; clear hS
 intro tm hS
 obtain ⟨⟨r1, r2⟩, hx1, h0⟩ := bindS h0
 refine o_call hS (.inl rfl) rfl (fun wm' hw1 hw2 => wk78  v1 places1  v2 v3 v4 ((((hS.sel hw2).ad 4 rfl).ad 3 rfl).ad 2 rfl) hx1) (fun wm' res H hw' hp => ?_)
 obtain ⟨v5, hres, hI⟩ := hp
 replace hres := hres.symm; subst hres
 replace hS : S wm 110 _ H ((25, .tuple #[v5, .int .i64 r2]) :: _) ([.own (rI .i64) v5 r1] ++ _) Fr := hS.after rfl hw' hI
 clear hI hw'
 refine pp5 hS rfl rfl rfl rfl rfl rfl rfl rfl rfl rfl ?_; clear hS
 intro tm hS
 refine o_nil (hR _ _ ?_)
 clear hR R
 refine c_seqS ?_
 refine cr2 hS rfl rfl rfl rfl ?_; clear hS
 intro tm hS
 refine c_cond hS rfl (fun hc => ?_) (fun hc => ?_)
 ·replace h0 := iteT hc h0
  refine c_reg fun R hR => ?_
  refine o_build hS (.inl rfl) rfl Fb94 rfl .nil rfl ?_; clear hS
  intro tm hS
  refine pp1 hS rfl rfl ?_; clear hS
  intro tm hS
  refine o_st (k := 1) hS (.inl rfl) rfl rfl rfl Fs94 rfl rfl (all_cons rfl (all_cons rfl all_nil)) rfl ?_; clear hS; try clear H
  intro H hS
  refine pp1 hS rfl rfl ?_; clear hS
  intro tm hS
  refine o_nil (hR _ _ ?_)
  clear hR R
  refine wpC.ret ?_
  obtain rfl := Option.some.inj h0
  replace hS := hS.nilOwn (rI .i64)
  replace hS := hS.nilOwn (rI .i64)
  refine Exists.intro _ (And.intro (rs_cellA (k := 3) hS rfl rfl (.inl rfl) Fu94 rfl Fs94 rfl (rs_tmp hS rfl rs_nil)) ?_)
  have hI := hS.inv
  exact ⟨(.slice none 0 0), (.slice none 0 0), rfl, (hI.sub (sc (sc sn)))⟩
 ·replace h0 := iteF hc h0
  refine wpC.skip ?_
  refine cr1 hS rfl rfl ?_; clear hS
  intro tm hS
  refine c_seqS ?_
  refine c_reg fun R hR => ?_
  refine pp1 hS rfl rfl ?_; clear hS
  intro tm hS
  refine o_len (k := 5) (r := rPlace) hS (.inl rfl) rfl rfl rfl (.inl rfl) Fu51 rfl ?_; clear hS
  intro tm hS
  refine pp1 hS rfl rfl ?_; clear hS
  intro tm hS
  refine o_nil (hR _ _ ?_)
  clear hR R
  obtain ⟨k1, hw1, h0⟩ := bindS h0
  refine wpC.block ?_
  replace hS := hS.nilOwn (rL (rI .i64))
  refine c_loop (I := fun (s : (List (List Int)) × Int) tm H => match (generalizing := false) s with | (all1, t1) => ∃ v6, S wm 110 tm H [(2, .pointer (some ⟨b1, 0, none⟩)), (4, .pointer (some ⟨b2, 0, none⟩)), (6, v5), (8, v6), (32, v4), (33, .int .i64 (places1.length : Int)), (34, .int .i64 t1)] [.box b1 [.bool v1.Char, v2, v3], .box b2 [(.slice none 0 0), (.slice none 0 0)], .own (rL (rI .i64)) v6 all1, .fz (rI .i64) v2 v1.Shape, .fz (rI .i64) v3 v1.Data, .own (rI .i64) v5 r1, .fz rPlace v4 places1] Fr) hw1 (by refine Exists.intro (.slice none 0 0) ?_; change S wm 110 _ _ _ _ Fr; exact hS.keep (k7 rfl rfl rfl rfl rfl rfl rfl) (fun hI => ((((((((hI.pull 6 rfl).pull 2 rfl).pull 6 rfl).pull 6 rfl).pull 4 rfl).pull 5 rfl).pull 6 rfl).take 7))) ?_
  clear hS
  intro s1 tm H c1 hS h1 hq1
  obtain ⟨all1, t1⟩ := s1
  obtain ⟨v6, hS⟩ := hS
  change S wm 110 tm H [(2, .pointer (some ⟨b1, 0, none⟩)), (4, .pointer (some ⟨b2, 0, none⟩)), (6, v5), (8, v6), (32, v4), (33, .int .i64 (places1.length : Int)), (34, .int .i64 t1)] [.box b1 [.bool v1.Char, v2, v3], .box b2 [(.slice none 0 0), (.slice none 0 0)], .own (rL (rI .i64)) v6 all1, .fz (rI .i64) v2 v1.Shape, .fz (rI .i64) v3 v1.Data, .own (rI .i64) v5 r1, .fz rPlace v4 places1] Fr at hS
  refine cr1 hS rfl rfl ?_; clear hS
  intro tm hS
  refine c_seqS ?_
  refine c_cond hS rfl (fun hc => ?_) (fun hc => ?_)
  ·replace h1 := iteT hc h1
   refine wpC.skip ?_
   refine c_seqS ?_
   refine wpC.block ?_
   refine c_reg fun R hR => ?_
   refine pp1 hS rfl rfl ?_; clear hS
   intro tm hS
   obtain ⟨y1, hx2, h1⟩ := bindS h1
   refine o_ixA (k := 6) (r := rPlace) hS (.inl rfl) rfl rfl rfl rfl (.inl rfl) Fu51 Fs53 hx2 ?_; clear hS
   intro tm hS
   refine o_ldPlace (k := 6) hS (.inl rfl) rfl rfl rfl (.inl rfl) hx2 Fu53 rfl Fs53 rfl ?_; clear hS
   intro v7 v8 tm hS
   refine o_alloc hS (.inl rfl) rfl Fz53 (by decide) ?_; clear hS
   intro b3 tm H hS
   refine pp1 hS rfl rfl ?_; clear hS
   intro tm hS
   refine o_st (k := 0) hS (.inl rfl) rfl rfl rfl Fs53 rfl rfl (all_cons rfl (all_cons rfl (all_cons (hS.one (k := 1) rfl (.inl rfl)) (all_cons (hS.one (k := 2) rfl (.inl rfl)) all_nil)))) rfl ?_; clear hS; try clear H
   intro H hS
   refine o_nil (hR _ _ ?_)
   clear hR R
   refine c_reg fun R hR => ?_
   refine o_ldA (k := 0) hS (.inl rfl) rfl rfl rfl (.inl rfl) Fu53 rfl Fs53 rfl ?_; clear hS
   intro tm hS
   refine pp1 hS rfl rfl ?_; clear hS
   intro tm hS
   refine o_ld1 (k := 3) hS (.inl rfl) rfl rfl rfl (.inl rfl) Fu22 rfl rfl ?_; clear hS
   intro tm hS
   refine pp1 hS rfl rfl ?_; clear hS
   intro tm hS
   obtain ⟨y2, hx3, h1⟩ := bindS h1
   refine o_ixA (k := 6) (r := (rI .i64)) hS (.inl rfl) rfl rfl rfl rfl (.inl rfl) Fu22 Fs3 hx3 ?_; clear hS
   intro tm hS
   refine o_ldF (r := (rI .i64)) (k := 6) hS (.inl rfl) rfl rfl rfl (.inl rfl) hx3 Fu3 rfl (flat_I _) rfl ?_; clear hS
   intro tm hS
   obtain ⟨⟨r3, r4⟩, hx4, h1⟩ := bindS h1
   refine o_call hS (.inl rfl) rfl (fun wm' hw1 hw2 => wk79  y1 y2  v7 v8 (((hS.sel hw2).ad 2 rfl).ad 1 rfl) hx4) (fun wm' res H hw' hp => ?_)
   obtain ⟨v9, hres, hI⟩ := hp
   replace hres := hres.symm; subst hres
   replace hS : S wm 110 _ H ((46, .tuple #[v9, .int .i64 r4]) :: _) ([.own (rI .i64) v9 r3] ++ _) Fr := hS.after rfl hw' hI
   clear hI hw'
   refine pp5 hS rfl rfl rfl rfl rfl rfl rfl rfl rfl rfl ?_; clear hS
   intro tm hS
   refine o_nil (hR _ _ ?_)
   clear hR R
   refine c_seqS ?_
   refine cr2 hS rfl rfl rfl rfl ?_; clear hS
   intro tm hS
   refine c_cond hS rfl (fun hc => ?_) (fun hc => ?_)
   ·replace h1 := iteT hc h1
    refine c_reg fun R hR => ?_
    refine o_build hS (.inl rfl) rfl Fb94 rfl .nil rfl ?_; clear hS
    intro tm hS
    refine pp1 hS rfl rfl ?_; clear hS
    intro tm hS
    refine o_st (k := 5) hS (.inl rfl) rfl rfl rfl Fs94 rfl rfl (all_cons rfl (all_cons rfl all_nil)) rfl ?_; clear hS; try clear H
    intro H hS
    refine pp1 hS rfl rfl ?_; clear hS
    intro tm hS
    refine o_nil (hR _ _ ?_)
    clear hR R
    refine wpC.ret ?_
    obtain rfl := Option.some.inj h1
    obtain rfl := hq1 _ rfl
    refine And.intro rfl ?_
    obtain rfl := leave h0
    replace hS := hS.nilOwn (rI .i64)
    replace hS := hS.nilOwn (rI .i64)
    refine Exists.intro _ (And.intro (rs_cellA (k := 7) hS rfl rfl (.inl rfl) Fu94 rfl Fs94 rfl (rs_tmp hS rfl rs_nil)) ?_)
    have hI := hS.inv
    exact ⟨(.slice none 0 0), (.slice none 0 0), rfl, (hI.sub (sc (sc sn)))⟩
   ·replace h1 := iteF hc h1
    refine wpC.skip ?_
    refine c_reg1 fun R hR => ?_
    refine pp2 hS rfl rfl rfl rfl ?_; clear hS
    intro tm hS
    replace hS := hS.frz (k := 0) rfl
    refine o_lit (r := (rL (rI .i64))) (l := [r3]) hS (.inl rfl) rfl Fl113 rfl rfl rfl (.cons (cells_one (hS.one (k := 0) rfl (.inl rfl))) .nil) rfl rfl (ri_1 (rd_S ⟨0, rfl⟩) ri_nil) rfl ?_; clear hS
    intro v10 tm H hS
    obtain ⟨l1, hx5, h1⟩ := bindS h1
    refine o_app (k1 := 7) (k2 := 0) (r := (rL (rI .i64))) hS (.inl rfl) rfl rfl rfl rfl rfl (.inr (.inr rfl)) rfl Fe113_113 rfl hx5 ?_; clear hS
    intro v11 tm H hS
    refine pp1 hS rfl rfl ?_; clear hS
    intro tm hS
    refine o_nil (hR _ _ ?_)
    clear hR R
    refine cs2 hS rfl rfl rfl rfl ?_; clear hS
    intro tm hS
    obtain rfl := Option.some.inj h1
    refine ⟨_, rfl, ?_⟩
    refine Exists.intro v11 ?_; change S wm 110 _ _ _ _ Fr; exact hS.keep (k7 rfl rfl rfl rfl rfl rfl rfl) (fun hI => (hI.sub (sd (sd (sd (sd (sd (sc (sc (sc (sc (sc (sc (sc sn))))))))))))))
  ·replace h1 := iteF hc h1
   refine wpC.exit ?_
   refine seqX ?_
   obtain rfl := Option.some.inj h1
   obtain rfl := hq1 _ rfl
   refine And.intro rfl (blk_eq ?_)
   replace h0 := joinN h0
   refine c_reg fun R hR => ?_
   refine pp1 hS rfl rfl ?_; clear hS
   intro tm hS
   obtain ⟨⟨r5, r6⟩, hx6, h0⟩ := bindS h0
   refine o_call (Pc := fun _ res H => res = .tuple #[.int .i64 r5, .int .i64 r6] ∧ Kn wm H ([.box b1 [.bool v1.Char, v2, v3], .box b2 [(.slice none 0 0), (.slice none 0 0)], .own (rL (rI .i64)) v6 all1, .fz (rI .i64) v2 v1.Shape, .fz (rI .i64) v3 v1.Data, .own (rI .i64) v5 r1, .fz rPlace v4 places1]) Fr) hS (.inl rfl) rfl (fun wm' hw1 hw2 => by
    obtain ⟨F2, kk_1, kk_2⟩ := hS.inv.lend (La := [.fz (rI .i64) v5 r1]) (List.forall_mem_cons.mpr ⟨(.inr ⟨_, _, _, _, rfl, .inl (List.mem_of_getElem? (i := 5) rfl)⟩), (fun _ h => by cases h)⟩) hw1 hw2
    exact (wk35  r1  v5 kk_1 hx6).mono fun res H2 ⟨qq_1, qq_2⟩ => ⟨qq_1, kk_2 _ qq_2⟩) (fun wm' res H hw' hp => ?_)
   obtain ⟨hres, hI⟩ := hp
   replace hres := hres.symm; subst hres
   replace hS : S wm 110 _ H ((60, .tuple #[.int .i64 r5, .int .i64 r6]) :: _) ([.box b1 [.bool v1.Char, v2, v3], .box b2 [(.slice none 0 0), (.slice none 0 0)], .own (rL (rI .i64)) v6 all1, .fz (rI .i64) v2 v1.Shape, .fz (rI .i64) v3 v1.Data, .own (rI .i64) v5 r1, .fz rPlace v4 places1]) Fr := (hS.put rfl _).withK hI
   clear hI hw'
   refine pp5 hS rfl rfl rfl rfl rfl rfl rfl rfl rfl rfl ?_; clear hS
   intro tm hS
   refine o_nil (hR _ _ ?_)
   clear hR R
   refine c_seqS ?_
   refine cr2 hS rfl rfl rfl rfl ?_; clear hS
   intro tm hS
   refine c_cond hS rfl (fun hc => ?_) (fun hc => ?_)
   ·replace h0 := iteT hc h0
    refine c_reg fun R hR => ?_
    refine o_build hS (.inl rfl) rfl Fb94 rfl .nil rfl ?_; clear hS
    intro tm hS
    refine o_st (k := 1) hS (.inl rfl) rfl rfl rfl Fs94 rfl rfl (all_cons rfl (all_cons rfl all_nil)) rfl ?_; clear hS; try clear H
    intro H hS
    refine pp1 hS rfl rfl ?_; clear hS
    intro tm hS
    refine o_nil (hR _ _ ?_)
    clear hR R
    refine wpC.ret ?_
    obtain rfl := Option.some.inj h0
    replace hS := hS.nilOwn (rI .i64)
    replace hS := hS.nilOwn (rI .i64)
    refine Exists.intro _ (And.intro (rs_cellA (k := 3) hS rfl rfl (.inl rfl) Fu94 rfl Fs94 rfl (rs_tmp hS rfl rs_nil)) ?_)
    have hI := hS.inv
    exact ⟨(.slice none 0 0), (.slice none 0 0), rfl, (hI.sub (sc (sc sn)))⟩
   ·replace h0 := iteF hc h0
    refine wpC.skip ?_
    refine c_reg fun R hR => ?_
    refine pp1 hS rfl rfl ?_; clear hS
    intro tm hS
    refine o_lit (r := (rI .i64)) (l := [0]) hS (.inl rfl) rfl Fl22 rfl rfl rfl (.cons rfl .nil) rfl rfl (ri_1 (rd_flat fun _ => rfl) ri_nil) rfl ?_; clear hS
    intro v12 tm H hS
    refine o_build hS (.inl rfl) rfl Fb94 rfl (.cons (cells_one (hS.one (k := 6) rfl (.inr (.inl rfl)))) (.cons (cells_one (hS.one (k := 0) rfl (.inr (.inr rfl)))) .nil)) rfl ?_; clear hS
    intro tm hS
    refine o_alloc hS (.inl rfl) rfl Fz94 (by decide) ?_; clear hS
    intro b4 tm H hS
    refine o_st (k := 0) hS (.inl rfl) rfl rfl rfl Fs94 rfl rfl (all_cons (hS.one (k := 7) rfl (.inr (.inl rfl))) (all_cons (hS.one (k := 1) rfl (.inr (.inr rfl))) all_nil)) rfl ?_; clear hS; try clear H
    intro H hS
    refine o_nil (hR _ _ ?_)
    clear hR R
    obtain ⟨offsets1, h20, h0⟩ := bindS h0
    refine c_seqJ (J := fun tm H => (match (generalizing := false) offsets1 with | offsets1 => ∃ v13, S wm 110 tm H [(2, .pointer (some ⟨b1, 0, none⟩)), (4, .pointer (some ⟨b2, 0, none⟩)), (8, v6), (14, .pointer (some ⟨b4, 0, none⟩))] [.box b1 [.bool v1.Char, v2, v3], .box b2 [(.slice none 0 0), (.slice none 0 0)], .box b4 [v5, v13], .own (rI .i64) v13 offsets1, .fz (rI .i64) v2 v1.Shape, .fz (rI .i64) v3 v1.Data, .own (rL (rI .i64)) v6 all1, .own (rI .i64) v5 r1] Fr)) ?_ ?_
    ·refine cr2 hS rfl rfl rfl rfl ?_; clear hS
     intro tm hS
     refine c_cond hS rfl (fun hc => ?_) (fun hc => ?_)
     ·replace h20 := iteT hc h20
      refine c_reg1 fun R hR => ?_
      refine pp1 hS rfl rfl ?_; clear hS
      intro tm hS
      refine o_st (k := 0) hS (.inl rfl) rfl rfl rfl Fs22 rfl rfl (all_cons rfl all_nil) rfl ?_; clear hS; try clear H
      intro H hS
      refine o_nil (hR _ _ ?_)
      clear hR R
      obtain rfl := Option.some.inj h20
      replace hS := hS.nilOwn (rI .i64)
      refine Exists.intro (.slice none 0 0) ?_; change S wm 110 _ _ _ _ Fr; exact hS.keep (k4 rfl rfl rfl rfl) (fun hI => (hI.pick [3, 4, 1, 0, 6, 7, 5, 8] rfl))
     ·replace h20 := iteF hc h20
      refine wpC.skip ?_
      obtain rfl := Option.some.inj h20
      replace hS := hS.litOwn (k := 1) rfl
      refine Exists.intro v12 ?_; change S wm 110 _ _ _ _ Fr; exact hS.keep (k4 rfl rfl rfl rfl) (fun hI => (hI.pick [2, 3, 0, 1, 5, 6, 4, 7] rfl))
    intro tm H hS
    obtain ⟨v13, hS⟩ := hS
    change S wm 110 tm H [(2, .pointer (some ⟨b1, 0, none⟩)), (4, .pointer (some ⟨b2, 0, none⟩)), (8, v6), (14, .pointer (some ⟨b4, 0, none⟩))] [.box b1 [.bool v1.Char, v2, v3], .box b2 [(.slice none 0 0), (.slice none 0 0)], .box b4 [v5, v13], .own (rI .i64) v13 offsets1, .fz (rI .i64) v2 v1.Shape, .fz (rI .i64) v3 v1.Data, .own (rL (rI .i64)) v6 all1, .own (rI .i64) v5 r1] Fr at hS
    refine c_seqS ?_
    refine c_reg fun R hR => ?_
    refine pp1 hS rfl rfl ?_; clear hS
    intro tm hS
    refine o_len (k := 6) (r := (rL (rI .i64))) hS (.inl rfl) rfl rfl rfl (.inr (.inl rfl)) Fu113 rfl ?_; clear hS
    intro tm hS
    refine pp1 hS rfl rfl ?_; clear hS
    intro tm hS
    refine o_nil (hR _ _ ?_)
    clear hR R
    obtain ⟨k2, hw2, h0⟩ := bindS h0
    refine wpC.block ?_
    refine c_loop (I := fun (s : Int × (List Int)) tm H => match (generalizing := false) s with | (t2, offsets2) => ∃ v14, S wm 110 tm H [(2, .pointer (some ⟨b1, 0, none⟩)), (4, .pointer (some ⟨b2, 0, none⟩)), (14, .pointer (some ⟨b4, 0, none⟩)), (72, v6), (73, .int .i64 (all1.length : Int)), (74, .int .i64 t2)] [.box b1 [.bool v1.Char, v2, v3], .box b2 [(.slice none 0 0), (.slice none 0 0)], .box b4 [v5, v14], .own (rI .i64) v14 offsets2, .fz (rI .i64) v2 v1.Shape, .fz (rI .i64) v3 v1.Data, .own (rI .i64) v5 r1, .own (rL (rI .i64)) v6 all1] Fr) hw2 (by refine Exists.intro v13 ?_; change S wm 110 _ _ _ _ Fr; exact hS.keep (k6 rfl rfl rfl rfl rfl rfl) (fun hI => (hI.pick [0, 1, 2, 3, 4, 5, 7, 6] rfl))) ?_
    clear hS
    intro s2 tm H c2 hS h29 hq29
    obtain ⟨t2, offsets2⟩ := s2
    obtain ⟨v14, hS⟩ := hS
    change S wm 110 tm H [(2, .pointer (some ⟨b1, 0, none⟩)), (4, .pointer (some ⟨b2, 0, none⟩)), (14, .pointer (some ⟨b4, 0, none⟩)), (72, v6), (73, .int .i64 (all1.length : Int)), (74, .int .i64 t2)] [.box b1 [.bool v1.Char, v2, v3], .box b2 [(.slice none 0 0), (.slice none 0 0)], .box b4 [v5, v14], .own (rI .i64) v14 offsets2, .fz (rI .i64) v2 v1.Shape, .fz (rI .i64) v3 v1.Data, .own (rI .i64) v5 r1, .own (rL (rI .i64)) v6 all1] Fr at hS
    refine cr1 hS rfl rfl ?_; clear hS
    intro tm hS
    refine c_seqS ?_
    refine c_cond hS rfl (fun hc => ?_) (fun hc => ?_)
    ·replace h29 := iteT hc h29
     refine wpC.skip ?_
     refine c_seqS ?_
     refine wpC.block ?_
     refine c_reg fun R hR => ?_
     refine pp1 hS rfl rfl ?_; clear hS
     intro tm hS
     obtain ⟨y3, hx7, h29⟩ := bindS h29
     refine o_ixA (k := 7) (r := (rL (rI .i64))) hS (.inl rfl) rfl rfl rfl rfl (.inr (.inl rfl)) Fu113 Fs22 hx7 ?_; clear hS
     intro tm hS
     refine o_ldS (k := 7) hS (.inl rfl) rfl rfl rfl (.inr (.inl rfl)) hx7 Fu22 rfl ?_; clear hS
     intro v15 tm hS
     refine pp2 hS rfl rfl rfl rfl ?_; clear hS
     intro tm hS
     refine o_nil (hR _ _ ?_)
     clear hR R
     refine cr1 hS rfl rfl ?_; clear hS
     intro tm hS
     refine c_seqS ?_
     refine c_reg fun R hR => ?_
     refine pp1 hS rfl rfl ?_; clear hS
     intro tm hS
     refine o_ld1 (k := 3) hS (.inl rfl) rfl rfl rfl (.inl rfl) Fu22 rfl rfl ?_; clear hS
     intro tm hS
     refine o_len (k := 4) (r := (rI .i64)) hS (.inl rfl) rfl rfl rfl (.inr (.inl rfl)) Fu22 rfl ?_; clear hS
     intro tm hS
     refine pp1 hS rfl rfl ?_; clear hS
     intro tm hS
     refine o_nil (hR _ _ ?_)
     clear hR R
     obtain ⟨k3, hw3, h29⟩ := bindS h29
     refine wpC.block ?_
     replace hS := hS.nilOwn (rI .i64)
     refine c_loop (I := fun (s : (List Int) × Int) tm H => match (generalizing := false) s with | (next1, t3) => ∃ v16, S wm 110 tm H [(2, .pointer (some ⟨b1, 0, none⟩)), (4, .pointer (some ⟨b2, 0, none⟩)), (14, .pointer (some ⟨b4, 0, none⟩)), (15, .int .i64 t2), (16, v15), (17, v16), (72, v6), (73, .int .i64 (all1.length : Int)), (74, .int .i64 t2), (80, v14), (81, .int .i64 (offsets2.length : Int)), (82, .int .i64 t3)] [.box b1 [.bool v1.Char, v2, v3], .box b2 [(.slice none 0 0), (.slice none 0 0)], .box b4 [v5, v14], .own (rI .i64) v16 next1, .fz (rI .i64) v2 v1.Shape, .fz (rI .i64) v3 v1.Data, .own (rI .i64) v5 r1, .own (rI .i64) v14 offsets2, .fz (rI .i64) v15 y3, .own (rL (rI .i64)) v6 all1] Fr) hw3 (by refine Exists.intro (.slice none 0 0) ?_; change S wm 110 _ _ _ _ Fr; exact hS.keep (k12 rfl rfl rfl rfl rfl rfl rfl rfl rfl rfl rfl rfl) (fun hI => (hI.pick [2, 3, 4, 0, 6, 7, 8, 5, 1, 9] rfl))) ?_
     clear hS
     intro s3 tm H c3 hS h35 hq35
     obtain ⟨next1, t3⟩ := s3
     obtain ⟨v16, hS⟩ := hS
     change S wm 110 tm H [(2, .pointer (some ⟨b1, 0, none⟩)), (4, .pointer (some ⟨b2, 0, none⟩)), (14, .pointer (some ⟨b4, 0, none⟩)), (15, .int .i64 t2), (16, v15), (17, v16), (72, v6), (73, .int .i64 (all1.length : Int)), (74, .int .i64 t2), (80, v14), (81, .int .i64 (offsets2.length : Int)), (82, .int .i64 t3)] [.box b1 [.bool v1.Char, v2, v3], .box b2 [(.slice none 0 0), (.slice none 0 0)], .box b4 [v5, v14], .own (rI .i64) v16 next1, .fz (rI .i64) v2 v1.Shape, .fz (rI .i64) v3 v1.Data, .own (rI .i64) v5 r1, .own (rI .i64) v14 offsets2, .fz (rI .i64) v15 y3, .own (rL (rI .i64)) v6 all1] Fr at hS
     refine cr1 hS rfl rfl ?_; clear hS
     intro tm hS
     refine c_seqS ?_
     refine c_cond hS rfl (fun hc => ?_) (fun hc => ?_)
     ·replace h35 := iteT hc h35
      refine wpC.skip ?_
      refine c_seqS ?_
      refine wpC.block ?_
      refine c_reg fun R hR => ?_
      obtain ⟨y4, hx8, h35⟩ := bindS h35
      refine o_ixA (k := 7) (r := (rI .i64)) hS (.inl rfl) rfl rfl rfl rfl (.inr (.inl rfl)) Fu22 Fs3 hx8 ?_; clear hS
      intro tm hS
      refine o_ldF (r := (rI .i64)) (k := 7) hS (.inl rfl) rfl rfl rfl (.inr (.inl rfl)) hx8 Fu3 rfl (flat_I _) rfl ?_; clear hS
      intro tm hS
      refine pp1 hS rfl rfl ?_; clear hS
      intro tm hS
      refine o_nil (hR _ _ ?_)
      clear hR R
      refine c_reg fun R hR => ?_
      refine pp1 hS rfl rfl ?_; clear hS
      intro tm hS
      refine o_len (k := 8) (r := (rI .i64)) hS (.inl rfl) rfl rfl rfl (.inl rfl) Fu22 rfl ?_; clear hS
      intro tm hS
      refine pp1 hS rfl rfl ?_; clear hS
      intro tm hS
      refine o_nil (hR _ _ ?_)
      clear hR R
      obtain ⟨k4, hw4, h35⟩ := bindS h35
      refine wpC.block ?_
      refine c_loop (I := fun (s : (List Int) × Int) tm H => match (generalizing := false) s with | (next2, t4) => ∃ v17, S wm 110 tm H [(2, .pointer (some ⟨b1, 0, none⟩)), (4, .pointer (some ⟨b2, 0, none⟩)), (14, .pointer (some ⟨b4, 0, none⟩)), (15, .int .i64 t2), (16, v15), (17, v17), (19, .int .i64 y4), (72, v6), (73, .int .i64 (all1.length : Int)), (74, .int .i64 t2), (80, v14), (81, .int .i64 (offsets2.length : Int)), (82, .int .i64 t3), (86, v15), (87, .int .i64 (y3.length : Int)), (88, .int .i64 t4)] [.box b1 [.bool v1.Char, v2, v3], .box b2 [(.slice none 0 0), (.slice none 0 0)], .box b4 [v5, v14], .own (rI .i64) v17 next2, .fz (rI .i64) v2 v1.Shape, .fz (rI .i64) v3 v1.Data, .own (rI .i64) v5 r1, .own (rI .i64) v14 offsets2, .fz (rI .i64) v15 y3, .own (rL (rI .i64)) v6 all1] Fr) hw4 (by refine Exists.intro v16 ?_; change S wm 110 _ _ _ _ Fr; exact hS.keep (ka_cons rfl (ka_cons rfl (ka_cons rfl (ka_cons rfl (ka_cons rfl (ka_cons rfl (ka_cons rfl (ka_cons rfl (ka_cons rfl (ka_cons rfl (ka_cons rfl (ka_cons rfl (ka_cons rfl (ka_cons rfl (ka_cons rfl (ka_cons rfl ka_nil)))))))))))))))) (fun hI => (hI.sub (sc (sc (sc (sc (sc (sc (sc (sc (sc (sc sn))))))))))))) ?_
      clear hS
      intro s4 tm H c4 hS h37 hq37
      obtain ⟨next2, t4⟩ := s4
      obtain ⟨v17, hS⟩ := hS
      change S wm 110 tm H [(2, .pointer (some ⟨b1, 0, none⟩)), (4, .pointer (some ⟨b2, 0, none⟩)), (14, .pointer (some ⟨b4, 0, none⟩)), (15, .int .i64 t2), (16, v15), (17, v17), (19, .int .i64 y4), (72, v6), (73, .int .i64 (all1.length : Int)), (74, .int .i64 t2), (80, v14), (81, .int .i64 (offsets2.length : Int)), (82, .int .i64 t3), (86, v15), (87, .int .i64 (y3.length : Int)), (88, .int .i64 t4)] [.box b1 [.bool v1.Char, v2, v3], .box b2 [(.slice none 0 0), (.slice none 0 0)], .box b4 [v5, v14], .own (rI .i64) v17 next2, .fz (rI .i64) v2 v1.Shape, .fz (rI .i64) v3 v1.Data, .own (rI .i64) v5 r1, .own (rI .i64) v14 offsets2, .fz (rI .i64) v15 y3, .own (rL (rI .i64)) v6 all1] Fr at hS
      refine cr1 hS rfl rfl ?_; clear hS
      intro tm hS
      refine c_seqS ?_
      refine c_cond hS rfl (fun hc => ?_) (fun hc => ?_)
      ·replace h37 := iteT hc h37
       refine wpC.skip ?_
       refine c_seqS ?_
       refine wpC.block ?_
       refine c_reg fun R hR => ?_
       obtain ⟨y5, hx9, h37⟩ := bindS h37
       refine o_ixA (k := 8) (r := (rI .i64)) hS (.inl rfl) rfl rfl rfl rfl (.inl rfl) Fu22 Fs3 hx9 ?_; clear hS
       intro tm hS
       refine o_ldF (r := (rI .i64)) (k := 8) hS (.inl rfl) rfl rfl rfl (.inl rfl) hx9 Fu3 rfl (flat_I _) rfl ?_; clear hS
       intro tm hS
       refine pp1 hS rfl rfl ?_; clear hS
       intro tm hS
       refine o_nil (hR _ _ ?_)
       clear hR R
       refine c_reg1 fun R hR => ?_
       refine pp3 hS rfl rfl rfl rfl rfl rfl ?_; clear hS
       intro tm hS
       refine o_ld1 (k := 0) hS (.inl rfl) rfl rfl rfl (.inl rfl) Fu22 rfl rfl ?_; clear hS
       intro tm hS
       refine pp1 hS rfl rfl ?_; clear hS
       intro tm hS
       obtain ⟨y6, hx10, h37⟩ := bindS h37
       refine o_ixA (k := 4) (r := (rI .i64)) hS (.inl rfl) rfl rfl rfl rfl (.inl rfl) Fu22 Fs3 hx10 ?_; clear hS
       intro tm hS
       refine o_ldF (r := (rI .i64)) (k := 4) hS (.inl rfl) rfl rfl rfl (.inl rfl) hx10 Fu3 rfl (flat_I _) rfl ?_; clear hS
       intro tm hS
       refine pp3 hS rfl rfl rfl rfl rfl rfl ?_; clear hS
       intro tm hS
       refine o_lit (r := (rI .i64)) (l := [(IntKind.i64.wrap ((IntKind.i64.wrap (y4 * y6)) + y5))]) hS (.inl rfl) rfl Fl22 rfl rfl rfl (.cons rfl .nil) rfl rfl (ri_1 (rd_flat fun _ => rfl) ri_nil) rfl ?_; clear hS
       intro v18 tm H hS
       obtain ⟨l2, hx11, h37⟩ := bindS h37
       refine o_app (k1 := 4) (k2 := 0) (r := (rI .i64)) hS (.inl rfl) rfl rfl rfl rfl rfl (.inr (.inr rfl)) rfl Fe22_22 rfl hx11 ?_; clear hS
       intro v19 tm H hS
       refine pp1 hS rfl rfl ?_; clear hS
       intro tm hS
       refine o_nil (hR _ _ ?_)
       clear hR R
       refine cs2 hS rfl rfl rfl rfl ?_; clear hS
       intro tm hS
       obtain rfl := Option.some.inj h37
       refine ⟨_, rfl, ?_⟩
       refine Exists.intro v19 ?_; change S wm 110 _ _ _ _ Fr; exact hS.keep (ka_cons rfl (ka_cons rfl (ka_cons rfl (ka_cons rfl (ka_cons rfl (ka_cons rfl (ka_cons rfl (ka_cons rfl (ka_cons rfl (ka_cons rfl (ka_cons rfl (ka_cons rfl (ka_cons rfl (ka_cons rfl (ka_cons rfl (ka_cons rfl ka_nil)))))))))))))))) (fun hI => (hI.sub (sd (sc (sc (sc (sc (sc (sc (sc (sc (sc (sc sn)))))))))))))
      ·replace h37 := iteF hc h37
       refine wpC.exit ?_
       refine seqX ?_
       obtain rfl := Option.some.inj h37
       obtain rfl := hq37 _ rfl
       refine And.intro rfl (blk_eq ?_)
       replace h35 := joinN h35
       refine cs2 hS rfl rfl rfl rfl ?_; clear hS
       intro tm hS
       obtain rfl := Option.some.inj h35
       refine ⟨_, rfl, ?_⟩
       refine Exists.intro v17 ?_; change S wm 110 _ _ _ _ Fr; exact hS.keep (k12 rfl rfl rfl rfl rfl rfl rfl rfl rfl rfl rfl rfl) (fun hI => (hI.sub (sc (sc (sc (sc (sc (sc (sc (sc (sc (sc sn))))))))))))
     ·replace h35 := iteF hc h35
      refine wpC.exit ?_
      refine seqX ?_
      obtain rfl := Option.some.inj h35
      obtain rfl := hq35 _ rfl
      refine And.intro rfl (blk_eq ?_)
      replace h29 := joinN h29
      refine c_reg1 fun R hR => ?_
      refine pp2 hS rfl rfl rfl rfl ?_; clear hS
      intro tm hS
      refine o_st (k := 2) hS (.inl rfl) rfl rfl rfl Fs22 (cells_one (hS.one (k := 3) rfl (.inr (.inl rfl)))) rfl (all_cons (hS.one (k := 3) rfl (.inr (.inl rfl))) all_nil) rfl ?_; clear hS; try clear H
      intro H hS
      refine o_nil (hR _ _ ?_)
      clear hR R
      refine cs2 hS rfl rfl rfl rfl ?_; clear hS
      intro tm hS
      obtain rfl := Option.some.inj h29
      refine ⟨_, rfl, ?_⟩
      refine Exists.intro v16 ?_; change S wm 110 _ _ _ _ Fr; exact hS.keep (k6 rfl rfl rfl rfl rfl rfl) (fun hI => (hI.sub (sc (sc (sc (sc (sc (sc (sc (sd (sd (sc sn))))))))))))
    ·replace h29 := iteF hc h29
     refine wpC.exit ?_
     refine seqX ?_
     obtain rfl := Option.some.inj h29
     obtain rfl := hq29 _ rfl
     refine And.intro rfl (blk_eq ?_)
     replace h0 := joinN h0
     refine c_reg fun R hR => ?_
     refine o_ldA (k := 2) hS (.inl rfl) rfl rfl rfl (.inl rfl) Fu94 rfl Fs94 rfl ?_; clear hS
     intro tm hS
     refine o_st (k := 1) hS (.inl rfl) rfl rfl rfl Fs94 rfl rfl (all_cons (hS.one (k := 6) rfl (.inr (.inl rfl))) (all_cons (hS.one (k := 3) rfl (.inr (.inl rfl))) all_nil)) rfl ?_; clear hS; try clear H
     intro H hS
     refine pp1 hS rfl rfl ?_; clear hS
     intro tm hS
     refine o_nil (hR _ _ ?_)
     clear hR R
     refine wpC.ret ?_
     obtain rfl := Option.some.inj h0
     refine Exists.intro _ (And.intro (rs_cellA (k := 1) hS rfl rfl (.inl rfl) Fu94 rfl Fs94 rfl (rs_tmp hS rfl rs_nil)) ?_)
     have hI := hS.inv
     exact ⟨v5, v14, rfl, (((hI.pull 3 rfl).pull 6 rfl).take 2)⟩
theorem wk27 {wm : Nat} {H : AHeap} {Fr : List Ent}  (v1 : Val) (places1 : (List Am.Place))  (v2 : Value) (v3 : Value) (v4 : Value) (hI : Kn wm H [.fz (rI .i64) v2 v1.Shape, .fz (rI .i64) v3 v1.Data, .fz rPlace v4 places1] Fr) {r : Val × Int} (h0 : M.index_Get v1 places1 = some r) :
  wpF Try.prog ora wm 27 [.agg #[.bool v1.Char, v2, v3], v4] H (fun res H => ∃ v10 v11, res = .tuple #[.agg #[.bool r.1.Char, v10, v11], .int .i64 r.2] ∧ Kn wm H [.own (rI .i64) v10 r.1.Shape, .own (rI .i64) v11 r.1.Data] Fr) := by
 unfold M.index_Get at h0
 refine f_enter (n := 45) Try.func27 rfl (by simp) hI rfl rfl rfl fun tm hS => ?_
 clear hI
 refine c_reg fun R hR => ?_
 refine o_box hS (.inl rfl) rfl rfl rfl (all_cons rfl (all_cons (hS.one (k := 0) rfl (.inl rfl)) (all_cons (hS.one (k := 1) rfl (.inl rfl)) all_nil))) ?_; clear hS
 intro b1 tm H hS
 refine o_alloc hS (.inl rfl) rfl Fz25 (by decide) ?_; clear hS
 intro b2 tm H hS
 refine pp1 hS rfl rfl ?_; clear hS
 intro tm hS
 refine o_nil (hR _ _ ?_)
 clear hR R
 refine c_reg fun R hR => ?_
 refine o_ldA (k := 1) hS (.inl rfl) rfl rfl rfl (.inl rfl) Fu25 rfl Fs25 rfl ?_; clear hS
 intro tm hS
 refine pp1 hS rfl rfl ?_; clear hS
 intro tm hS
 obtain ⟨⟨r1, r2⟩, hx1, h0⟩ := bindS h0
 refine o_call hS (.inl rfl) rfl (fun wm' hw1 hw2 => wk51  v1 places1  v2 v3 v4 ((((hS.sel hw2).ad 4 rfl).ad 3 rfl).ad 2 rfl) hx1) (fun wm' res H hw' hp => ?_)
 obtain ⟨v5, v6, hres, hI⟩ := hp
 replace hres := hres.symm; subst hres
 replace hS : S wm 45 _ H ((14, .tuple #[.agg #[v5, v6], .int .i64 r2]) :: _) ([.own (rI .i64) v5 r1.shape, .own (rI .i64) v6 r1.offsets] ++ _) Fr := hS.after rfl hw' hI
 clear hI hw'
 refine pp3 hS rfl rfl rfl rfl rfl rfl ?_; clear hS
 intro tm hS
 refine o_alloc hS (.inl rfl) rfl Fz94 (by decide) ?_; clear hS
 intro b3 tm H hS
 refine o_st (k := 0) hS (.inl rfl) rfl rfl rfl Fs94 rfl rfl (all_cons (hS.one (k := 1) rfl (.inr (.inl rfl))) (all_cons (hS.one (k := 2) rfl (.inr (.inl rfl))) all_nil)) rfl ?_; clear hS; try clear H
 intro H hS
 refine pp1 hS rfl rfl ?_; clear hS
 intro tm hS
 refine o_nil (hR _ _ ?_)
 clear hR R
 refine c_seqS ?_
 refine cr2 hS rfl rfl rfl rfl ?_; clear hS
 intro tm hS
 refine c_cond hS rfl (fun hc => ?_) (fun hc => ?_)
 ·replace h0 := iteT hc h0
  refine c_reg fun R hR => ?_
  refine o_build hS (.inl rfl) rfl Fb25 rfl .nil rfl ?_; clear hS
  intro tm hS
  refine pp1 hS rfl rfl ?_; clear hS
  intro tm hS
  refine o_st (k := 3) hS (.inl rfl) rfl rfl rfl Fs25 rfl rfl (all_cons rfl (all_cons rfl (all_cons rfl all_nil))) rfl ?_; clear hS; try clear H
  intro H hS
  refine pp1 hS rfl rfl ?_; clear hS
  intro tm hS
  refine o_nil (hR _ _ ?_)
  clear hR R
  refine wpC.ret ?_
  obtain rfl := Option.some.inj h0
  replace hS := hS.nilOwn (rI .i64)
  replace hS := hS.nilOwn (rI .i64)
  refine Exists.intro _ (And.intro (rs_cellA (k := 5) hS rfl rfl (.inl rfl) Fu25 rfl Fs25 rfl (rs_tmp hS rfl rs_nil)) ?_)
  have hI := hS.inv
  exact ⟨(.slice none 0 0), (.slice none 0 0), rfl, (((hI.pull 0 rfl).pull 1 rfl).take 2)⟩
 ·replace h0 := iteF hc h0
  refine wpC.skip ?_
  refine c_reg fun R hR => ?_
  refine pp1 hS rfl rfl ?_; clear hS
  intro tm hS
  refine o_ld1 (k := 4) hS (.inl rfl) rfl rfl rfl (.inl rfl) Fu4 rfl rfl ?_; clear hS
  intro tm hS
  refine pp1 hS rfl rfl ?_; clear hS
  intro tm hS
  refine o_ld1 (k := 0) hS (.inl rfl) rfl rfl rfl (.inl rfl) Fu22 rfl rfl ?_; clear hS
  intro tm hS
  refine o_build hS (.inl rfl) rfl Fb25 rfl (.cons rfl (.cons (cells_one (hS.one (k := 1) rfl (.inr (.inl rfl)))) .nil)) rfl ?_; clear hS
  intro tm hS
  refine o_alloc hS (.inl rfl) rfl Fz25 (by decide) ?_; clear hS
  intro b4 tm H hS
  refine o_st (k := 0) hS (.inl rfl) rfl rfl rfl Fs25 rfl rfl (all_cons rfl (all_cons (hS.one (k := 2) rfl (.inr (.inl rfl))) (all_cons rfl all_nil))) rfl ?_; clear hS; try clear H
  intro H hS
  refine o_nil (hR _ _ ?_)
  clear hR R
  refine c_seqS ?_
  refine c_reg fun R hR => ?_
  refine pp1 hS rfl rfl ?_; clear hS
  intro tm hS
  refine o_ld1 (k := 1) hS (.inl rfl) rfl rfl rfl (.inl rfl) Fu22 rfl rfl ?_; clear hS
  intro tm hS
  refine o_len (k := 3) (r := (rI .i64)) hS (.inl rfl) rfl rfl rfl (.inr (.inl rfl)) Fu22 rfl ?_; clear hS
  intro tm hS
  refine pp1 hS rfl rfl ?_; clear hS
  intro tm hS
  refine o_nil (hR _ _ ?_)
  clear hR R
  obtain ⟨k1, hw1, h0⟩ := bindS h0
  refine wpC.block ?_
  replace hS := hS.nilOwn (rI .i64)
  refine c_loop (I := fun (s : Int × (List Int)) tm H => match (generalizing := false) s with | (t1, Data1) => ∃ v7, S wm 45 tm H [(2, .pointer (some ⟨b1, 0, none⟩)), (4, .pointer (some ⟨b2, 0, none⟩)), (8, .pointer (some ⟨b4, 0, none⟩)), (27, v6), (28, .int .i64 (r1.offsets.length : Int)), (29, .int .i64 t1)] [.box b1 [.bool v1.Char, v2, v3], .box b2 [.bool false, (.slice none 0 0), (.slice none 0 0)], .box b4 [.bool v1.Char, v5, v7], .own (rI .i64) v7 Data1, .fz (rI .i64) v2 v1.Shape, .fz (rI .i64) v3 v1.Data, .own (rI .i64) v5 r1.shape, .own (rI .i64) v6 r1.offsets] Fr) hw1 (by refine Exists.intro (.slice none 0 0) ?_; change S wm 45 _ _ _ _ Fr; exact hS.keep (k6 rfl rfl rfl rfl rfl rfl) (fun hI => (hI.pick [6, 5, 1, 0, 7, 8, 3, 4] rfl))) ?_
  clear hS
  intro s1 tm H c1 hS h1 hq1
  obtain ⟨t1, Data1⟩ := s1
  obtain ⟨v7, hS⟩ := hS
  change S wm 45 tm H [(2, .pointer (some ⟨b1, 0, none⟩)), (4, .pointer (some ⟨b2, 0, none⟩)), (8, .pointer (some ⟨b4, 0, none⟩)), (27, v6), (28, .int .i64 (r1.offsets.length : Int)), (29, .int .i64 t1)] [.box b1 [.bool v1.Char, v2, v3], .box b2 [.bool false, (.slice none 0 0), (.slice none 0 0)], .box b4 [.bool v1.Char, v5, v7], .own (rI .i64) v7 Data1, .fz (rI .i64) v2 v1.Shape, .fz (rI .i64) v3 v1.Data, .own (rI .i64) v5 r1.shape, .own (rI .i64) v6 r1.offsets] Fr at hS
  refine cr1 hS rfl rfl ?_; clear hS
  intro tm hS
  refine c_seqS ?_
  refine c_cond hS rfl (fun hc => ?_) (fun hc => ?_)
  ·replace h1 := iteT hc h1
   refine wpC.skip ?_
   refine c_seqS ?_
   refine wpC.block ?_
   refine c_reg fun R hR => ?_
   obtain ⟨y1, hx2, h1⟩ := bindS h1
   refine o_ixA (k := 7) (r := (rI .i64)) hS (.inl rfl) rfl rfl rfl rfl (.inr (.inl rfl)) Fu22 Fs3 hx2 ?_; clear hS
   intro tm hS
   refine o_ldF (r := (rI .i64)) (k := 7) hS (.inl rfl) rfl rfl rfl (.inr (.inl rfl)) hx2 Fu3 rfl (flat_I _) rfl ?_; clear hS
   intro tm hS
   refine pp1 hS rfl rfl ?_; clear hS
   intro tm hS
   refine o_nil (hR _ _ ?_)
   clear hR R
   refine c_reg1 fun R hR => ?_
   refine pp1 hS rfl rfl ?_; clear hS
   intro tm hS
   refine o_ld1 (k := 2) hS (.inl rfl) rfl rfl rfl (.inl rfl) Fu23 rfl rfl ?_; clear hS
   intro tm hS
   refine pp1 hS rfl rfl ?_; clear hS
   intro tm hS
   refine o_ld1 (k := 0) hS (.inl rfl) rfl rfl rfl (.inl rfl) Fu23 rfl rfl ?_; clear hS
   intro tm hS
   refine pp1 hS rfl rfl ?_; clear hS
   intro tm hS
   obtain ⟨y2, hx3, h1⟩ := bindS h1
   refine o_ixA (k := 5) (r := (rI .i64)) hS (.inl rfl) rfl rfl rfl rfl (.inl rfl) Fu23 Fs2 hx3 ?_; clear hS
   intro tm hS
   refine o_ldF (r := (rI .i64)) (k := 5) hS (.inl rfl) rfl rfl rfl (.inl rfl) hx3 Fu2 rfl (flat_I _) rfl ?_; clear hS
   intro tm hS
   refine o_lit (r := (rI .i64)) (l := [y2]) hS (.inl rfl) rfl Fl23 rfl rfl rfl (.cons rfl .nil) rfl rfl (ri_1 (rd_flat fun _ => rfl) ri_nil) rfl ?_; clear hS
   intro v8 tm H hS
   obtain ⟨l1, hx4, h1⟩ := bindS h1
   refine o_app (k1 := 4) (k2 := 0) (r := (rI .i64)) hS (.inl rfl) rfl rfl rfl rfl rfl (.inr (.inr rfl)) rfl Fe23_23 rfl hx4 ?_; clear hS
   intro v9 tm H hS
   refine pp1 hS rfl rfl ?_; clear hS
   intro tm hS
   refine o_st (k := 3) hS (.inl rfl) rfl rfl rfl Fs23 (cells_one (hS.one (k := 4) rfl (.inr (.inl rfl)))) rfl (all_cons (hS.one (k := 4) rfl (.inr (.inl rfl))) all_nil) rfl ?_; clear hS; try clear H
   intro H hS
   refine o_nil (hR _ _ ?_)
   clear hR R
   refine cs2 hS rfl rfl rfl rfl ?_; clear hS
   intro tm hS
   obtain rfl := Option.some.inj h1
   refine ⟨_, rfl, ?_⟩
   refine Exists.intro v9 ?_; change S wm 45 _ _ _ _ Fr; exact hS.keep (k6 rfl rfl rfl rfl rfl rfl) (fun hI => (hI.sub (sd (sc (sc (sc (sc (sc (sc (sc (sc sn)))))))))))
  ·replace h1 := iteF hc h1
   refine wpC.exit ?_
   refine seqX ?_
   obtain rfl := Option.some.inj h1
   obtain rfl := hq1 _ rfl
   refine And.intro rfl (blk_eq ?_)
   replace h0 := joinN h0
   refine c_reg fun R hR => ?_
   refine o_ldA (k := 2) hS (.inl rfl) rfl rfl rfl (.inl rfl) Fu25 rfl Fs25 rfl ?_; clear hS
   intro tm hS
   refine o_st (k := 1) hS (.inl rfl) rfl rfl rfl Fs25 rfl rfl (all_cons rfl (all_cons (hS.one (k := 6) rfl (.inr (.inl rfl))) (all_cons (hS.one (k := 3) rfl (.inr (.inl rfl))) all_nil))) rfl ?_; clear hS; try clear H
   intro H hS
   refine pp1 hS rfl rfl ?_; clear hS
   intro tm hS
   refine o_nil (hR _ _ ?_)
   clear hR R
   refine wpC.ret ?_
   obtain rfl := Option.some.inj h0
   refine Exists.intro _ (And.intro (rs_cellA (k := 1) hS rfl rfl (.inl rfl) Fu25 rfl Fs25 rfl (rs_tmp hS rfl rs_nil)) ?_)
   have hI := hS.inv
   exact ⟨v5, v7, rfl, (((hI.pull 3 rfl).pull 6 rfl).take 2)⟩
theorem wk12 {wm : Nat} {H : AHeap} {Fr : List Ent}  (v1 : Val) (e1 : Int) (want1 : Val)  (v2 : Value) (v3 : Value) (v4 : Value) (v5 : Value) (hI : Kn wm H [.fz (rI .i64) v2 v1.Shape, .fz (rI .i64) v3 v1.Data, .fz (rI .i64) v4 want1.Shape, .fz (rI .i64) v5 want1.Data] Fr) {r : Bool} (h0 : M.anamnesislaw07_Is v1 e1 want1 = some r) :
  wpF Try.prog ora wm 12 [.agg #[.bool v1.Char, v2, v3], .int .i64 e1, .agg #[.bool want1.Char, v4, v5]] H (fun res H => res = .bool r ∧ Kn wm H [] Fr) := by
 unfold M.anamnesislaw07_Is at h0
 refine f_enter (n := 14) Try.func12 rfl (by simp) hI rfl rfl rfl fun tm hS => ?_
 clear hI
 refine c_reg fun R hR => ?_
 refine o_box hS (.inl rfl) rfl rfl rfl (all_cons rfl (all_cons (hS.one (k := 0) rfl (.inl rfl)) (all_cons (hS.one (k := 1) rfl (.inl rfl)) all_nil))) ?_; clear hS
 intro b1 tm H hS
 refine o_box hS (.inl rfl) rfl rfl rfl (all_cons rfl (all_cons (hS.one (k := 3) rfl (.inl rfl)) (all_cons (hS.one (k := 4) rfl (.inl rfl)) all_nil))) ?_; clear hS
 intro b2 tm H hS
 refine pp1 hS rfl rfl ?_; clear hS
 intro tm hS
 refine o_nil (hR _ _ ?_)
 clear hR R
 refine c_reg fun R hR => ?_
 refine pp3 hS rfl rfl rfl rfl rfl rfl ?_; clear hS
 intro tm hS
 obtain ⟨c1, hc1, h0⟩ := bindS h0
 refine o_cutN 4 (J := fun tm H => S wm 14 tm H [(13, .bool c1)] [] Fr) ?_ ?_
 ·rcases Bool.eq_false_or_eq_true (e1 == 0) with hg1 | hg1
  ·replace hc1 := iteT hg1 hc1
   refine o_ldA (k := 1) hS (.inr ⟨_, _, _, _, rfl, rfl, rfl, hg1⟩) rfl rfl rfl (.inl rfl) Fu25 rfl Fs25 rfl ?_; clear hS
   intro tm hS
   refine o_ldA (k := 0) hS (.inr ⟨_, _, _, _, rfl, rfl, rfl, hg1⟩) rfl rfl rfl (.inl rfl) Fu25 rfl Fs25 rfl ?_; clear hS
   intro tm hS
   obtain ⟨r1, hx1, hc1⟩ := bindS hc1
   refine o_call hS (.inr ⟨_, _, _, _, rfl, rfl, rfl, hg1⟩) rfl (fun wm' hw1 hw2 => wk21  v1 want1  v2 v3 v4 v5 (((((hS.sel hw2).ad 5 rfl).ad 4 rfl).ad 3 rfl).ad 2 rfl) hx1) (fun wm' res H hw' hp => ?_)
   obtain ⟨hres, hI⟩ := hp
   replace hres := hres.symm; subst hres
   replace hS : S wm 14 _ H ((12, .bool r1) :: _) ([] ++ _) Fr := hS.after rfl hw' hI
   clear hI hw'
   refine o_pickT hS (.inl rfl) rfl rfl hg1 rfl ?_; clear hS
   intro tm hS
   obtain rfl := Option.some.inj hc1
   exact o_nil (hS.keep (ka_cons rfl ka_nil) (fun hI => (hI.sub sn)))
  ·replace hc1 := iteF hg1 hc1
   refine o_skip hS rfl rfl rfl hg1 ?_; clear hS
   intro tm hS
   refine o_skip hS rfl rfl rfl hg1 ?_; clear hS
   intro tm hS
   refine o_skip hS rfl rfl rfl hg1 ?_; clear hS
   intro tm hS
   refine o_pickF hS (.inl rfl) rfl rfl hg1 rfl ?_; clear hS
   intro tm hS
   obtain rfl := Option.some.inj hc1
   exact o_nil (hS.keep (ka_cons rfl ka_nil) (fun hI => (hI.sub sn)))
 intro tm H hS
 refine pp1 hS rfl rfl ?_; clear hS
 intro tm hS
 refine o_nil (hR _ _ ?_)
 clear hR R
 refine wpC.ret ?_
 obtain rfl := Option.some.inj h0
 refine Exists.intro _ (And.intro (rs_tmp hS rfl rs_nil) ?_)
 have hI := hS.inv
 exact ⟨rfl, (hI.sub sn)⟩
end Go.Proofs.Ytblgdjpeedgnoaa.overLast
