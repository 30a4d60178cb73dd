/- ShapeBack: walks of the code: the run of each function comes to what its plain function says. -/
import Derived.Test.YtlcpnakgolfofaaMShapeBack
import Derived.Test.YtlcpnakgolfofaaProg
set_option linter.unusedVariables false
set_option linter.unusedSimpArgs false
set_option maxRecDepth 100000
open Go Go.Am Go.Proofs
namespace Go.Proofs.Ytlcpnakgolfofaa.shapeBack
variable {ora : FuncId → Bool}
theorem u22 : Try.prog.underlying 22 = some (.slice 3) := by kernel_rfl
theorem s3 : sizeOf' Try.prog 3 = some 1 := by kernel_rfl
theorem u3 : Try.prog.underlying 3 = some (.int .i64) := by kernel_rfl
theorem m22 : MkOk Try.prog 22 8 3 ((Try.prog.info? 3).getD default) (((Try.prog.info? 3).getD default).zero.getD undef) (.int .i64 0) := ⟨by kernel_rfl, by kernel_rfl, by kernel_rfl, by kernel_rfl, by kernel_rfl, by kernel_rfl, by kernel_rfl⟩
theorem l22 : LitOk Try.prog 22 1 3 ((zeroOf Try.prog 3).getD undef) := ⟨by kernel_rfl, by kernel_rfl, by kernel_rfl, by kernel_rfl, by kernel_rfl, by decide⟩
theorem e22_22 : ElemOk Try.prog 22 22 1 8 3 3 ((Try.prog.info? 3).getD default) (((Try.prog.info? 3).getD default).zero.getD undef) := ⟨by kernel_rfl, by kernel_rfl, by kernel_rfl, by kernel_rfl, by kernel_rfl, by kernel_rfl, by kernel_rfl, by decide, by kernel_rfl, by decide⟩
theorem w60 {wm : Nat} {H : AHeap} {Fr : List Ent}  (s1 : (List Int)) (f1 : (Int → Option (Bool))) (gfn1 : FuncId) (gcap1 : Array Value) (E : List Ent) (hE : ∀ e ∈ E, e.blk = none) (hf : ∀ {wm : Nat} {H : AHeap} {Fr : List Ent} (y0 : Int) , Kn wm H (E) Fr → ∀ {r : Bool}, f1 y0 = some r → wpF Try.prog ora wm gfn1 ([.int .i64 y0] ++ gcap1.toList) H (fun res H => res = .bool r ∧ Kn wm H [] Fr)) (v1 : Value) (hI : Kn wm H (.fz (rI .i64) v1 s1 :: E) Fr) {r : Int} (h0 : M.slices_IndexFunc__int s1 f1 = some r) :
  wpF Try.prog ora wm 60 [v1, .func (.func gfn1) #[] gcap1] H (fun res H => res = .int .i64 r ∧ Kn wm H [] Fr) := by
 unfold M.slices_IndexFunc__int at h0
 refine f_enter (n := 19) Try.func60 rfl (by simp) hI rfl rfl rfl fun tm hS => ?_
 clear hI
 refine c_reg fun R hR => ?_
 refine o_pure hS (.inl rfl) rfl rfl ?_; clear hS; try clear tm
 intro tm hS
 refine o_nil (hR _ _ ?_)
 clear hR R
 refine c_seqS ?_
 refine c_reg fun R hR => ?_
 refine o_pure hS (.inl rfl) rfl rfl ?_; clear hS; try clear tm
 intro tm hS
 refine o_len (k := 0) (r := (rI .i64)) hS (.inl rfl) rfl rfl rfl (.inl rfl) u22 rfl ?_; clear hS; try clear tm
 intro tm hS
 refine o_pure hS (.inl rfl) rfl rfl ?_; clear hS; try clear tm
 intro tm hS
 refine o_nil (hR _ _ ?_)
 clear hR R
 obtain ⟨k1, hw1, h0⟩ := bindS h0
 refine wpC.block ?_
 refine c_loop (I := fun (s : Int) tm H => match (generalizing := false) s with | t1 => S wm 19 tm H [(0, v1), (1, .func (.func gfn1) #[] gcap1), (7, .int .i64 (s1.length : Int)), (8, .int .i64 t1)] (.fz (rI .i64) v1 s1 :: E) Fr) hw1 (by change S wm 19 _ _ _ _ Fr; exact hS.keep (ka_cons rfl (ka_cons rfl (ka_cons rfl (ka_cons rfl ka_nil)))) (fun hI => (hI.sub (sc sr)))) ?_
 clear hS
 intro t1 tm H c1 hS h1 hq1
 change S wm 19 tm H [(0, v1), (1, .func (.func gfn1) #[] gcap1), (7, .int .i64 (s1.length : Int)), (8, .int .i64 t1)] (.fz (rI .i64) v1 s1 :: E) Fr at hS
 refine c_reg fun R hR => ?_
 refine o_pure hS (.inl rfl) rfl rfl ?_; clear hS; try clear tm
 intro tm hS
 refine o_nil (hR _ _ ?_)
 clear hR R
 refine c_seqS ?_
 refine c_cond hS rfl (fun hc => ?_) (fun hc => ?_)
 ·replace h1 := iteT hc h1
  refine wpC.skip ?_
  refine c_seqS ?_
  refine wpC.block ?_
  refine c_reg fun R hR => ?_
  refine o_pure hS (.inl rfl) rfl rfl ?_; clear hS; try clear tm
  intro tm hS
  refine o_pure hS (.inl rfl) rfl rfl ?_; clear hS; try clear tm
  intro tm hS
  refine o_nil (hR _ _ ?_)
  clear hR R
  refine c_reg fun R hR => ?_
  refine o_pure hS (.inl rfl) rfl rfl ?_; clear hS; try clear tm
  intro tm hS
  refine o_pure hS (.inl rfl) rfl rfl ?_; clear hS; try clear tm
  intro tm hS
  refine o_pure hS (.inl rfl) rfl rfl ?_; clear hS; try clear tm
  intro tm hS
  obtain ⟨y1, hx1, h1⟩ := bindS h1
  refine o_ixA (k := 0) (r := (rI .i64)) hS (.inl rfl) rfl rfl rfl rfl (.inl rfl) u22 s3 hx1 ?_; clear hS; try clear tm
  intro tm hS
  refine o_ldF (r := (rI .i64)) (k := 0) hS (.inl rfl) rfl rfl rfl (.inl rfl) hx1 u3 rfl (flat_I _) rfl ?_; clear hS; try clear tm
  intro tm hS
  obtain ⟨r1, hx2, h1⟩ := bindS h1
  refine o_call hS (.inl rfl) rfl (fun wm' hw1 hw2 => hf y1  ((hS.sel hw2).adAll hE (fun e he => List.mem_cons_of_mem _ (he))) hx2) (fun wm' res H hw' hp => ?_)
  obtain ⟨hres, hI⟩ := hp
  replace hres := hres.symm; subst hres
  replace hS : S wm 19 _ H ((16, .bool r1) :: _) ([] ++ _) Fr := hS.after rfl hw' hI
  clear hI hw'
  refine o_nil (hR _ _ ?_)
  clear hR R
  refine c_cond hS rfl (fun hc => ?_) (fun hc => ?_)
  ·replace h1 := iteT hc h1
   refine c_reg fun R hR => ?_
   refine o_pure hS (.inl rfl) rfl rfl ?_; clear hS; try clear tm
   intro tm hS
   refine o_pure hS (.inl rfl) rfl rfl ?_; clear hS; try clear tm
   intro tm hS
   refine o_nil (hR _ _ ?_)
   clear hR R
   refine wpC.ret ?_
   obtain rfl := Option.some.inj h1
   obtain rfl := hq1 _ rfl
   refine And.intro rfl ?_
   obtain rfl := leave h0
   refine Exists.intro _ (And.intro (rs_tmp hS rfl rs_nil) ?_)
   have hI := hS.inv
   exact ⟨rfl, (hI.sub sn)⟩
  ·replace h1 := iteF hc h1
   refine wpC.skip ?_
   refine c_reg1 fun R hR => ?_
   refine o_pure hS (.inl rfl) rfl rfl ?_; clear hS; try clear tm
   intro tm hS
   refine o_pure hS (.inl rfl) rfl rfl ?_; clear hS; try clear tm
   intro tm hS
   refine o_nil (hR _ _ ?_)
   clear hR R
   obtain rfl := Option.some.inj h1
   refine ⟨_, rfl, ?_⟩
   change S wm 19 _ _ _ _ Fr; exact hS.keep (ka_cons rfl (ka_cons rfl (ka_cons rfl (ka_cons rfl ka_nil)))) (fun hI => (hI.sub (sc sr)))
 ·replace h1 := iteF hc h1
  refine wpC.exit ?_
  obtain rfl := Option.some.inj h1
  obtain rfl := hq1 _ rfl
  refine And.intro rfl (blk_eq ?_)
  replace h0 := joinN h0
  refine c_reg fun R hR => ?_
  refine o_pure hS (.inl rfl) rfl rfl ?_; clear hS; try clear tm
  intro tm hS
  refine o_nil (hR _ _ ?_)
  clear hR R
  refine wpC.ret ?_
  obtain rfl := Option.some.inj h0
  refine Exists.intro _ (And.intro (rs_tmp hS rfl rs_nil) ?_)
  have hI := hS.inv
  exact ⟨rfl, (hI.sub sn)⟩
theorem w42 {wm : Nat} {H : AHeap} {Fr : List Ent}  (s1 : (List Int)) (f1 : (Int → Option (Bool))) (gfn1 : FuncId) (gcap1 : Array Value) (E : List Ent) (hE : ∀ e ∈ E, e.blk = none) (hf : ∀ {wm : Nat} {H : AHeap} {Fr : List Ent} (y0 : Int) , Kn wm H (E) Fr → ∀ {r : Bool}, f1 y0 = some r → wpF Try.prog ora wm gfn1 ([.int .i64 y0] ++ gcap1.toList) H (fun res H => res = .bool r ∧ Kn wm H [] Fr)) (v1 : Value) (hI : Kn wm H (.fz (rI .i64) v1 s1 :: E) Fr) {r : Bool} (h0 : M.slices_ContainsFunc__int s1 f1 = some r) :
  wpF Try.prog ora wm 42 [v1, .func (.func gfn1) #[] gcap1] H (fun res H => res = .bool r ∧ Kn wm H [] Fr) := by
 unfold M.slices_ContainsFunc__int at h0
 refine f_enter (n := 9) Try.func42 rfl (by simp) hI rfl rfl rfl fun tm hS => ?_
 clear hI
 refine c_reg fun R hR => ?_
 refine o_pure hS (.inl rfl) rfl rfl ?_; clear hS; try clear tm
 intro tm hS
 refine o_nil (hR _ _ ?_)
 clear hR R
 refine c_reg fun R hR => ?_
 refine o_pure hS (.inl rfl) rfl rfl ?_; clear hS; try clear tm
 intro tm hS
 refine o_pure hS (.inl rfl) rfl rfl ?_; clear hS; try clear tm
 intro tm hS
 obtain ⟨r1, hx1, h0⟩ := bindS h0
 refine o_call hS (.inl rfl) rfl (fun wm' hw1 hw2 => w60  s1 f1 gfn1 gcap1 E hE hf v1 (((hS.sel hw2).adAll hE (fun e he => List.mem_cons_of_mem _ (he))).ad 0 rfl) hx1) (fun wm' res H hw' hp => ?_)
 obtain ⟨hres, hI⟩ := hp
 replace hres := hres.symm; subst hres
 replace hS : S wm 9 _ H ((7, .int .i64 r1) :: _) ([] ++ _) Fr := hS.after rfl hw' hI
 clear hI hw'
 refine o_pure hS (.inl rfl) rfl rfl ?_; clear hS; try clear tm
 intro tm hS
 refine o_pure hS (.inl rfl) rfl rfl ?_; clear hS; try clear tm
 intro tm hS
 refine o_nil (hR _ _ ?_)
 clear hR R
 refine wpC.ret ?_
 obtain rfl := Option.some.inj h0
 refine Exists.intro _ (And.intro (rs_tmp hS rfl rs_nil) ?_)
 have hI := hS.inv
 exact ⟨rfl, (hI.sub sn)⟩
theorem w43 {wm : Nat} {H : AHeap} {Fr : List Ent}  (n1 : Int)   (hI : Kn wm H [] Fr) {r : Bool} (h0 : M.shape_Size_1 n1 = some r) :
  wpF Try.prog ora wm 43 [.int .i64 n1] H (fun res H => res = .bool r ∧ Kn wm H [] Fr) := by
 unfold M.shape_Size_1 at h0
 refine f_enter (n := 5) Try.func43 rfl (by simp) hI rfl rfl rfl fun tm hS => ?_
 clear hI
 refine c_reg fun R hR => ?_
 refine o_pure hS (.inl rfl) rfl rfl ?_; clear hS; try clear tm
 intro tm hS
 refine o_nil (hR _ _ ?_)
 clear hR R
 refine c_reg fun R hR => ?_
 refine o_pure hS (.inl rfl) rfl rfl ?_; clear hS; try clear tm
 intro tm hS
 refine o_pure hS (.inl rfl) rfl rfl ?_; clear hS; try clear tm
 intro tm hS
 refine o_pure hS (.inl rfl) rfl rfl ?_; clear hS; try clear tm
 intro tm hS
 refine o_nil (hR _ _ ?_)
 clear hR R
 refine wpC.ret ?_
 obtain rfl := Option.some.inj h0
 refine Exists.intro _ (And.intro (rs_tmp hS rfl rs_nil) ?_)
 have hI := hS.inv
 exact ⟨rfl, (hI.sub sn)⟩
theorem w44 {wm : Nat} {H : AHeap} {Fr : List Ent}  (n1 : Int)   (hI : Kn wm H [] Fr) {r : Bool} (h0 : M.shape_Size_2 n1 = some r) :
  wpF Try.prog ora wm 44 [.int .i64 n1] H (fun res H => res = .bool r ∧ Kn wm H [] Fr) := by
 unfold M.shape_Size_2 at h0
 refine f_enter (n := 5) Try.func44 rfl (by simp) hI rfl rfl rfl fun tm hS => ?_
 clear hI
 refine c_reg fun R hR => ?_
 refine o_pure hS (.inl rfl) rfl rfl ?_; clear hS; try clear tm
 intro tm hS
 refine o_nil (hR _ _ ?_)
 clear hR R
 refine c_reg fun R hR => ?_
 refine o_pure hS (.inl rfl) rfl rfl ?_; clear hS; try clear tm
 intro tm hS
 refine o_pure hS (.inl rfl) rfl rfl ?_; clear hS; try clear tm
 intro tm hS
 refine o_pure hS (.inl rfl) rfl rfl ?_; clear hS; try clear tm
 intro tm hS
 refine o_nil (hR _ _ ?_)
 clear hR R
 refine wpC.ret ?_
 obtain rfl := Option.some.inj h0
 refine Exists.intro _ (And.intro (rs_tmp hS rfl rs_nil) ?_)
 have hI := hS.inv
 exact ⟨rfl, (hI.sub sn)⟩
theorem w45 {wm : Nat} {H : AHeap} {Fr : List Ent}  (s1 : (List Int))  (v1 : Value) (hI : Kn wm H [.fz (rI .i64) v1 s1] Fr) {r : Int} (h0 : M.shape_product s1 = some r) :
  wpF Try.prog ora wm 45 [v1] H (fun res H => res = .int .i64 r ∧ Kn wm H [] Fr) := by
 unfold M.shape_product at h0
 refine f_enter (n := 17) Try.func45 rfl (by simp) hI rfl rfl rfl fun tm hS => ?_
 clear hI
 refine c_reg fun R hR => ?_
 refine o_pure hS (.inl rfl) rfl rfl ?_; clear hS; try clear tm
 intro tm hS
 refine o_nil (hR _ _ ?_)
 clear hR R
 refine c_reg fun R hR => ?_
 refine o_pure hS (.inl rfl) rfl rfl ?_; clear hS; try clear tm
 intro tm hS
 refine o_nil (hR _ _ ?_)
 clear hR R
 refine c_seqS ?_
 refine c_reg fun R hR => ?_
 refine o_pure hS (.inl rfl) rfl rfl ?_; clear hS; try clear tm
 intro tm hS
 refine o_len (k := 0) (r := (rI .i64)) hS (.inl rfl) rfl rfl rfl (.inl rfl) u22 rfl ?_; clear hS; try clear tm
 intro tm hS
 refine o_pure hS (.inl rfl) rfl rfl ?_; clear hS; try clear tm
 intro tm hS
 refine o_nil (hR _ _ ?_)
 clear hR R
 obtain ⟨k1, hw1, h0⟩ := bindS h0
 refine wpC.block ?_
 refine c_loop (I := fun (s : Int × Int) tm H => match (generalizing := false) s with | (p1, t1) => S wm 17 tm H [(3, .int .i64 p1), (6, v1), (7, .int .i64 (s1.length : Int)), (8, .int .i64 t1)] [.fz (rI .i64) v1 s1] Fr) hw1 (by change S wm 17 _ _ _ _ Fr; exact hS.keep (ka_cons rfl (ka_cons rfl (ka_cons rfl (ka_cons rfl ka_nil)))) (fun hI => (hI.sub (sc sn)))) ?_
 clear hS
 intro s2 tm H c1 hS h1 hq1
 obtain ⟨p1, t1⟩ := s2
 change S wm 17 tm H [(3, .int .i64 p1), (6, v1), (7, .int .i64 (s1.length : Int)), (8, .int .i64 t1)] [.fz (rI .i64) v1 s1] Fr at hS
 refine c_reg fun R hR => ?_
 refine o_pure hS (.inl rfl) rfl rfl ?_; clear hS; try clear tm
 intro tm hS
 refine o_nil (hR _ _ ?_)
 clear hR R
 refine c_seqS ?_
 refine c_cond hS rfl (fun hc => ?_) (fun hc => ?_)
 ·replace h1 := iteT hc h1
  refine wpC.skip ?_
  refine c_seqS ?_
  refine wpC.block ?_
  refine c_reg fun R hR => ?_
  obtain ⟨y1, hx1, h1⟩ := bindS h1
  refine o_ixA (k := 0) (r := (rI .i64)) hS (.inl rfl) rfl rfl rfl rfl (.inl rfl) u22 s3 hx1 ?_; clear hS; try clear tm
  intro tm hS
  refine o_ldF (r := (rI .i64)) (k := 0) hS (.inl rfl) rfl rfl rfl (.inl rfl) hx1 u3 rfl (flat_I _) rfl ?_; clear hS; try clear tm
  intro tm hS
  refine o_pure hS (.inl rfl) rfl rfl ?_; clear hS; try clear tm
  intro tm hS
  refine o_nil (hR _ _ ?_)
  clear hR R
  refine c_reg1 fun R hR => ?_
  refine o_pure hS (.inl rfl) rfl rfl ?_; clear hS; try clear tm
  intro tm hS
  refine o_pure hS (.inl rfl) rfl rfl ?_; clear hS; try clear tm
  intro tm hS
  refine o_pure hS (.inl rfl) rfl rfl ?_; clear hS; try clear tm
  intro tm hS
  refine o_pure hS (.inl rfl) rfl rfl ?_; clear hS; try clear tm
  intro tm hS
  refine o_nil (hR _ _ ?_)
  clear hR R
  refine c_reg1 fun R hR => ?_
  refine o_pure hS (.inl rfl) rfl rfl ?_; clear hS; try clear tm
  intro tm hS
  refine o_pure hS (.inl rfl) rfl rfl ?_; clear hS; try clear tm
  intro tm hS
  refine o_nil (hR _ _ ?_)
  clear hR R
  obtain rfl := Option.some.inj h1
  refine ⟨_, rfl, ?_⟩
  change S wm 17 _ _ _ _ Fr; exact hS.keep (ka_cons rfl (ka_cons rfl (ka_cons rfl (ka_cons rfl ka_nil)))) (fun hI => (hI.sub (sc sn)))
 ·replace h1 := iteF hc h1
  refine wpC.exit ?_
  obtain rfl := Option.some.inj h1
  obtain rfl := hq1 _ rfl
  refine And.intro rfl (blk_eq ?_)
  replace h0 := joinN h0
  refine c_reg fun R hR => ?_
  refine o_pure hS (.inl rfl) rfl rfl ?_; clear hS; try clear tm
  intro tm hS
  refine o_pure hS (.inl rfl) rfl rfl ?_; clear hS; try clear tm
  intro tm hS
  refine o_nil (hR _ _ ?_)
  clear hR R
  refine wpC.ret ?_
  obtain rfl := Option.some.inj h0
  refine Exists.intro _ (And.intro (rs_tmp hS rfl rs_nil) ?_)
  have hI := hS.inv
  exact ⟨rfl, (hI.sub sn)⟩
theorem w21 {wm : Nat} {H : AHeap} {Fr : List Ent}  (s1 : (List Int))  (v1 : Value) (hI : Kn wm H [.fz (rI .i64) v1 s1] Fr) {r : Int × Int} (h0 : M.shape_Size s1 = some r) :
  wpF Try.prog ora wm 21 [v1] H (fun res H => res = .tuple #[.int .i64 r.1, .int .i64 r.2] ∧ Kn wm H [] Fr) := by
 unfold M.shape_Size at h0
 refine f_enter (n := 19) Try.func21 rfl (by simp) hI rfl rfl rfl fun tm hS => ?_
 clear hI
 refine c_reg fun R hR => ?_
 refine o_pure hS (.inl rfl) rfl rfl ?_; clear hS; try clear tm
 intro tm hS
 refine o_pure hS (.inl rfl) rfl rfl ?_; clear hS; try clear tm
 intro tm hS
 refine o_nil (hR _ _ ?_)
 clear hR R
 refine c_seqS ?_
 refine wpC.block ?_
 refine c_reg fun R hR => ?_
 refine o_pure hS (.inl rfl) rfl rfl ?_; clear hS; try clear tm
 intro tm hS
 refine o_len (k := 0) (r := (rI .i64)) hS (.inl rfl) rfl rfl rfl (.inl rfl) u22 rfl ?_; clear hS; try clear tm
 intro tm hS
 refine o_pure hS (.inl rfl) rfl rfl ?_; clear hS; try clear tm
 intro tm hS
 refine o_pure hS (.inl rfl) rfl rfl ?_; clear hS; try clear tm
 intro tm hS
 refine o_nil (hR _ _ ?_)
 clear hR R
 refine c_cond hS rfl (fun hc => ?_) (fun hc => ?_)
 ·replace h0 := iteT hc h0
  refine c_reg fun R hR => ?_
  refine o_pure hS (.inl rfl) rfl rfl ?_; clear hS; try clear tm
  intro tm hS
  refine o_pure hS (.inl rfl) rfl rfl ?_; clear hS; try clear tm
  intro tm hS
  refine o_nil (hR _ _ ?_)
  clear hR R
  refine wpC.ret ?_
  obtain rfl := Option.some.inj h0
  refine Exists.intro _ (And.intro (rs_tmp hS rfl (rs_tmp hS rfl rs_nil)) ?_)
  have hI := hS.inv
  exact ⟨rfl, (hI.sub sn)⟩
 ·replace h0 := iteF hc h0
  refine c_reg fun R hR => ?_
  refine o_pure hS (.inl rfl) rfl rfl ?_; clear hS; try clear tm
  intro tm hS
  obtain ⟨r1, hx1, h0⟩ := bindS h0
  refine o_call hS (.inl rfl) rfl (fun wm' hw1 hw2 => w42  s1 (fun x0 => M.shape_Size_1 x0) 43 #[] [] (by simp [Ent.blk]) (fun x0 hI _ h0 => w43  x0   hI h0) v1 ((hS.sel hw2).ad 0 rfl) hx1) (fun wm' res H hw' hp => ?_)
  obtain ⟨hres, hI⟩ := hp
  replace hres := hres.symm; subst hres
  replace hS : S wm 19 _ H ((10, .bool r1) :: _) ([] ++ _) Fr := hS.after rfl hw' hI
  clear hI hw'
  refine o_pure hS (.inl rfl) rfl rfl ?_; clear hS; try clear tm
  intro tm hS
  refine o_nil (hR _ _ ?_)
  clear hR R
  refine c_cond hS rfl (fun hc => ?_) (fun hc => ?_)
  ·replace h0 := iteT hc h0
   refine c_reg fun R hR => ?_
   refine o_pure hS (.inl rfl) rfl rfl ?_; clear hS; try clear tm
   intro tm hS
   refine o_pure hS (.inl rfl) rfl rfl ?_; clear hS; try clear tm
   intro tm hS
   refine o_nil (hR _ _ ?_)
   clear hR R
   refine wpC.ret ?_
   obtain rfl := Option.some.inj h0
   refine Exists.intro _ (And.intro (rs_tmp hS rfl (rs_tmp hS rfl rs_nil)) ?_)
   have hI := hS.inv
   exact ⟨rfl, (hI.sub sn)⟩
  ·replace h0 := iteF hc h0
   obtain ⟨t1, h1, h0⟩ := bindS h0
   refine c_seqJ (J := fun tm H => (match (generalizing := false) t1 with | t1 => S wm 19 tm H [(0, v1), (11, .bool t1)] [.fz (rI .i64) v1 s1] Fr)) ?_ ?_
   ·refine c_reg fun R hR => ?_
    refine o_pure hS (.inl rfl) rfl rfl ?_; clear hS; try clear tm
    intro tm hS
    obtain ⟨r2, hx2, h1⟩ := bindS h1
    refine o_call hS (.inl rfl) rfl (fun wm' hw1 hw2 => w42  s1 (fun x0 => M.shape_Size_2 x0) 44 #[] [] (by simp [Ent.blk]) (fun x0 hI _ h0 => w44  x0   hI h0) v1 ((hS.sel hw2).ad 0 rfl) hx2) (fun wm' res H hw' hp => ?_)
    obtain ⟨hres, hI⟩ := hp
    replace hres := hres.symm; subst hres
    replace hS : S wm 19 _ H ((13, .bool r2) :: _) ([] ++ _) Fr := hS.after rfl hw' hI
    clear hI hw'
    refine o_pure hS (.inl rfl) rfl rfl ?_; clear hS; try clear tm
    intro tm hS
    refine o_nil (hR _ _ ?_)
    clear hR R
    refine c_cond hS rfl (fun hc => ?_) (fun hc => ?_)
    ·replace h1 := iteT hc h1
     refine wpC.skip ?_
     obtain rfl := Option.some.inj h1
     change S wm 19 _ _ _ _ Fr; exact hS.keep (ka_cons rfl (ka_cons rfl ka_nil)) (fun hI => (hI.sub (sc sn)))
    ·replace h1 := iteF hc h1
     refine c_reg1 fun R hR => ?_
     refine o_pure hS (.inl rfl) rfl rfl ?_; clear hS; try clear tm
     intro tm hS
     obtain ⟨r3, hx3, h1⟩ := bindS h1
     refine o_call hS (.inl rfl) rfl (fun wm' hw1 hw2 => w45  s1  v1 ((hS.sel hw2).ad 0 rfl) hx3) (fun wm' res H hw' hp => ?_)
     obtain ⟨hres, hI⟩ := hp
     replace hres := hres.symm; subst hres
     replace hS : S wm 19 _ H ((15, .int .i64 r3) :: _) ([] ++ _) Fr := hS.after rfl hw' hI
     clear hI hw'
     refine o_pure hS (.inl rfl) rfl rfl ?_; clear hS; try clear tm
     intro tm hS
     refine o_pure hS (.inl rfl) rfl rfl ?_; clear hS; try clear tm
     intro tm hS
     refine o_nil (hR _ _ ?_)
     clear hR R
     obtain rfl := Option.some.inj h1
     change S wm 19 _ _ _ _ Fr; exact hS.keep (ka_cons rfl (ka_cons rfl ka_nil)) (fun hI => (hI.sub (sc sn)))
   intro tm H hS
   change S wm 19 tm H [(0, v1), (11, .bool t1)] [.fz (rI .i64) v1 s1] Fr at hS
   refine c_cond hS rfl (fun hc => ?_) (fun hc => ?_)
   ·replace h0 := iteT hc h0
    refine c_reg fun R hR => ?_
    refine o_pure hS (.inl rfl) rfl rfl ?_; clear hS; try clear tm
    intro tm hS
    refine o_pure hS (.inl rfl) rfl rfl ?_; clear hS; try clear tm
    intro tm hS
    refine o_nil (hR _ _ ?_)
    clear hR R
    refine wpC.ret ?_
    obtain rfl := Option.some.inj h0
    refine Exists.intro _ (And.intro (rs_tmp hS rfl (rs_tmp hS rfl rs_nil)) ?_)
    have hI := hS.inv
    exact ⟨rfl, (hI.sub sn)⟩
   ·replace h0 := iteF hc h0
    refine wpC.skip ?_
    refine c_reg fun R hR => ?_
    refine o_pure hS (.inl rfl) rfl rfl ?_; clear hS; try clear tm
    intro tm hS
    obtain ⟨r4, hx4, h0⟩ := bindS h0
    refine o_call hS (.inl rfl) rfl (fun wm' hw1 hw2 => w45  s1  v1 ((hS.sel hw2).ad 0 rfl) hx4) (fun wm' res H hw' hp => ?_)
    obtain ⟨hres, hI⟩ := hp
    replace hres := hres.symm; subst hres
    replace hS : S wm 19 _ H ((18, .int .i64 r4) :: _) ([] ++ _) Fr := hS.after rfl hw' hI
    clear hI hw'
    refine o_pure hS (.inl rfl) rfl rfl ?_; clear hS; try clear tm
    intro tm hS
    refine o_pure hS (.inl rfl) rfl rfl ?_; clear hS; try clear tm
    intro tm hS
    refine o_nil (hR _ _ ?_)
    clear hR R
    refine wpC.ret ?_
    obtain rfl := Option.some.inj h0
    refine Exists.intro _ (And.intro (rs_tmp hS rfl (rs_tmp hS rfl rs_nil)) ?_)
    have hI := hS.inv
    exact ⟨rfl, (hI.sub sn)⟩
theorem w18 {wm : Nat} {H : AHeap} {Fr : List Ent}  (s1 : (List Int)) (k1 : Int)  (v1 : Value) (hI : Kn wm H [.fz (rI .i64) v1 s1] Fr) {r : (List Int) × Bool} (h0 : M.shape_At s1 k1 = some r) :
  wpF Try.prog ora wm 18 [v1, .int .i64 k1] H (fun res H => ∃ v3, res = .tuple #[v3, .bool r.2] ∧ Kn wm H [.own (rI .i64) v3 r.1] Fr) := by
 unfold M.shape_At at h0
 refine f_enter (n := 52) Try.func18 rfl (by simp) hI rfl rfl rfl fun tm hS => ?_
 clear hI
 refine c_reg fun R hR => ?_
 refine o_pure hS (.inl rfl) rfl rfl ?_; clear hS; try clear tm
 intro tm hS
 refine o_pure hS (.inl rfl) rfl rfl ?_; clear hS; try clear tm
 intro tm hS
 refine o_nil (hR _ _ ?_)
 clear hR R
 refine c_reg fun R hR => ?_
 refine o_pure hS (.inl rfl) rfl rfl ?_; clear hS; try clear tm
 intro tm hS
 obtain ⟨⟨r1, r2⟩, hx1, h0⟩ := bindS h0
 refine o_call hS (.inl rfl) rfl (fun wm' hw1 hw2 => w21  s1  v1 ((hS.sel hw2).ad 0 rfl) hx1) (fun wm' res H hw' hp => ?_)
 obtain ⟨hres, hI⟩ := hp
 replace hres := hres.symm; subst hres
 replace hS : S wm 52 _ H ((12, .tuple #[.int .i64 r1, .int .i64 r2]) :: _) ([] ++ _) Fr := hS.after rfl hw' hI
 clear hI hw'
 refine o_pure hS (.inl rfl) rfl rfl ?_; clear hS; try clear tm
 intro tm hS
 refine o_pure hS (.inl rfl) rfl rfl ?_; clear hS; try clear tm
 intro tm hS
 refine o_pure hS (.inl rfl) rfl rfl ?_; clear hS; try clear tm
 intro tm hS
 refine o_pure hS (.inl rfl) rfl rfl ?_; clear hS; try clear tm
 intro tm hS
 refine o_pure hS (.inl rfl) rfl rfl ?_; clear hS; try clear tm
 intro tm hS
 refine o_nil (hR _ _ ?_)
 clear hR R
 refine c_seqS ?_
 refine c_reg fun R hR => ?_
 refine o_pure hS (.inl rfl) rfl rfl ?_; clear hS; try clear tm
 intro tm hS
 refine o_pure hS (.inl rfl) rfl rfl ?_; clear hS; try clear tm
 intro tm hS
 refine o_pure hS (.inl rfl) rfl rfl ?_; clear hS; try clear tm
 intro tm hS
 obtain ⟨c1, hc1⟩ : ∃ x : Bool, x = ((r2 != 0) || (decide (k1 < 0))) := ⟨_, rfl⟩
 refine o_cutN 3 (J := fun tm H => S wm 52 tm H [(20, .bool c1), (0, v1), (1, .int .i64 k1), (6, .int .i64 r1)] [.fz (rI .i64) v1 s1] Fr) ?_ ?_
 ·rcases Bool.eq_false_or_eq_true (r2 != 0) with hg1 | hg1
  ·refine o_skip hS rfl rfl rfl hg1 ?_; clear hS; try clear tm
   intro tm hS
   refine o_skip hS rfl rfl rfl hg1 ?_; clear hS; try clear tm
   intro tm hS
   refine o_pickT hS (.inl rfl) rfl rfl hg1 rfl ?_; clear hS; try clear tm
   intro tm hS
   have hc1 : c1 = true := hc1.trans (by rw [hg1]; first | rfl | simp)
   subst hc1
   exact o_nil (hS.keep (ka_cons rfl (ka_cons rfl (ka_cons rfl (ka_cons rfl ka_nil)))) (fun hI => (hI.sub (sc sn))))
  ·refine o_pure hS (.inr ⟨_, _, _, _, rfl, rfl, rfl, hg1⟩) rfl rfl ?_; clear hS; try clear tm
   intro tm hS
   refine o_pure hS (.inr ⟨_, _, _, _, rfl, rfl, rfl, hg1⟩) rfl rfl ?_; clear hS; try clear tm
   intro tm hS
   refine o_pickF hS (.inl rfl) rfl rfl hg1 rfl ?_; clear hS; try clear tm
   intro tm hS
   have hc1 : c1 = (decide (k1 < 0)) := hc1.trans (by rw [hg1]; first | rfl | simp)
   subst hc1
   exact o_nil (hS.keep (ka_cons rfl (ka_cons rfl (ka_cons rfl (ka_cons rfl ka_nil)))) (fun hI => (hI.sub (sc sn))))
 intro tm H hS
 subst hc1
 refine o_pure hS (.inl rfl) rfl rfl ?_; clear hS; try clear tm
 intro tm hS
 obtain ⟨c2, hc2⟩ : ∃ x : Bool, x = (((r2 != 0) || (decide (k1 < 0))) || (decide (k1 ≥ r1))) := ⟨_, rfl⟩
 refine o_cutN 4 (J := fun tm H => S wm 52 tm H [(25, .bool c2), (0, v1), (1, .int .i64 k1)] [.fz (rI .i64) v1 s1] Fr) ?_ ?_
 ·rcases Bool.eq_false_or_eq_true ((r2 != 0) || (decide (k1 < 0))) with hg2 | hg2
  ·refine o_skip hS rfl rfl rfl hg2 ?_; clear hS; try clear tm
   intro tm hS
   refine o_skip hS rfl rfl rfl hg2 ?_; clear hS; try clear tm
   intro tm hS
   refine o_skip hS rfl rfl rfl hg2 ?_; clear hS; try clear tm
   intro tm hS
   refine o_pickT hS (.inl rfl) rfl rfl hg2 rfl ?_; clear hS; try clear tm
   intro tm hS
   have hc2 : c2 = true := hc2.trans (by rw [hg2]; first | rfl | simp)
   subst hc2
   exact o_nil (hS.keep (ka_cons rfl (ka_cons rfl (ka_cons rfl ka_nil))) (fun hI => (hI.sub (sc sn))))
  ·refine o_pure hS (.inr ⟨_, _, _, _, rfl, rfl, rfl, hg2⟩) rfl rfl ?_; clear hS; try clear tm
   intro tm hS
   refine o_pure hS (.inr ⟨_, _, _, _, rfl, rfl, rfl, hg2⟩) rfl rfl ?_; clear hS; try clear tm
   intro tm hS
   refine o_pure hS (.inr ⟨_, _, _, _, rfl, rfl, rfl, hg2⟩) rfl rfl ?_; clear hS; try clear tm
   intro tm hS
   refine o_pickF hS (.inl rfl) rfl rfl hg2 rfl ?_; clear hS; try clear tm
   intro tm hS
   have hc2 : c2 = (decide (k1 ≥ r1)) := hc2.trans (by rw [hg2]; first | rfl | simp)
   subst hc2
   exact o_nil (hS.keep (ka_cons rfl (ka_cons rfl (ka_cons rfl ka_nil))) (fun hI => (hI.sub (sc sn))))
 intro tm H hS
 subst hc2
 refine o_nil (hR _ _ ?_)
 clear hR R
 refine c_cond hS rfl (fun hc => ?_) (fun hc => ?_)
 ·replace h0 := iteT hc h0
  refine c_reg fun R hR => ?_
  refine o_pure hS (.inl rfl) rfl rfl ?_; clear hS; try clear tm
  intro tm hS
  refine o_pure hS (.inl rfl) rfl rfl ?_; clear hS; try clear tm
  intro tm hS
  refine o_nil (hR _ _ ?_)
  clear hR R
  refine wpC.ret ?_
  obtain rfl := Option.some.inj h0
  replace hS := hS.nilOwn (rI .i64)
  refine Exists.intro _ (And.intro (rs_tmp hS rfl (rs_tmp hS rfl rs_nil)) ?_)
  have hI := hS.inv
  exact ⟨(.slice none 0 0), rfl, (hI.sub (sc sn))⟩
 ·replace h0 := iteF hc h0
  refine wpC.skip ?_
  refine c_reg fun R hR => ?_
  refine o_pure hS (.inl rfl) rfl rfl ?_; clear hS; try clear tm
  intro tm hS
  refine o_len (k := 0) (r := (rI .i64)) hS (.inl rfl) rfl rfl rfl (.inl rfl) u22 rfl ?_; clear hS; try clear tm
  intro tm hS
  obtain ⟨l1, hx2, h0⟩ := bindS h0
  refine o_mk (r := (rI .i64)) hS (.inl rfl) rfl rfl rfl m22 rfl (fun _ => rfl) hx2 ?_; clear hS; try clear tm H
  intro v2 tm H hS
  refine o_pure hS (.inl rfl) rfl rfl ?_; clear hS; try clear tm
  intro tm hS
  refine o_nil (hR _ _ ?_)
  clear hR R
  refine c_seqS ?_
  refine c_reg fun R hR => ?_
  refine o_pure hS (.inl rfl) rfl rfl ?_; clear hS; try clear tm
  intro tm hS
  refine o_len (k := 1) (r := (rI .i64)) hS (.inl rfl) rfl rfl rfl (.inl rfl) u22 rfl ?_; clear hS; try clear tm
  intro tm hS
  refine o_pure hS (.inl rfl) rfl rfl ?_; clear hS; try clear tm
  intro tm hS
  refine o_pure hS (.inl rfl) rfl rfl ?_; clear hS; try clear tm
  intro tm hS
  refine o_nil (hR _ _ ?_)
  clear hR R
  obtain ⟨k3, hw1, h0⟩ := bindS h0
  refine wpC.block ?_
  refine c_loop (I := fun (s : Int × Int × (List Int)) tm H => match (generalizing := false) s with | (k2, i1, l2) => S wm 52 tm H [(0, v1), (1, .int .i64 k2), (8, v2), (9, .int .i64 i1)] [.fz (rI .i64) v1 s1, .own (rI .i64) v2 l2] Fr) hw1 (by change S wm 52 _ _ _ _ Fr; exact hS.keep (ka_cons rfl (ka_cons rfl (ka_cons rfl (ka_cons rfl ka_nil)))) (fun hI => (((hI.pull 0 rfl).pull 1 rfl).take 2))) ?_
  clear hS
  intro s2 tm H c3 hS h1 hq1
  obtain ⟨k2, i1, l2⟩ := s2
  change S wm 52 tm H [(0, v1), (1, .int .i64 k2), (8, v2), (9, .int .i64 i1)] [.fz (rI .i64) v1 s1, .own (rI .i64) v2 l2] Fr at hS
  refine c_seqS ?_
  refine c_reg fun R hR => ?_
  refine o_pure hS (.inl rfl) rfl rfl ?_; clear hS; try clear tm
  intro tm hS
  refine o_pure hS (.inl rfl) rfl rfl ?_; clear hS; try clear tm
  intro tm hS
  refine o_nil (hR _ _ ?_)
  clear hR R
  refine c_cond hS rfl (fun hc => ?_) (fun hc => ?_)
  ·replace h1 := iteT hc h1
   refine wpC.skip ?_
   refine c_seqS ?_
   refine wpC.block ?_
   refine c_reg1 fun R hR => ?_
   refine o_pure hS (.inl rfl) rfl rfl ?_; clear hS; try clear tm
   intro tm hS
   refine o_pure hS (.inl rfl) rfl rfl ?_; clear hS; try clear tm
   intro tm hS
   refine o_pure hS (.inl rfl) rfl rfl ?_; clear hS; try clear tm
   intro tm hS
   refine o_pure hS (.inl rfl) rfl rfl ?_; clear hS; try clear tm
   intro tm hS
   refine o_pure hS (.inl rfl) rfl rfl ?_; clear hS; try clear tm
   intro tm hS
   obtain ⟨y1, hx3, h1⟩ := bindS h1
   refine o_ixA (k := 0) (r := (rI .i64)) hS (.inl rfl) rfl rfl rfl rfl (.inl rfl) u22 s3 hx3 ?_; clear hS; try clear tm
   intro tm hS
   refine o_ldF (r := (rI .i64)) (k := 0) hS (.inl rfl) rfl rfl rfl (.inl rfl) hx3 u3 rfl (flat_I _) rfl ?_; clear hS; try clear tm
   intro tm hS
   obtain ⟨q1, hx4, h1⟩ := bindS h1
   refine o_rem hS (.inl rfl) rfl rfl rfl hx4 ?_; clear hS; try clear tm
   intro tm hS
   refine o_pure hS (.inl rfl) rfl rfl ?_; clear hS; try clear tm
   intro tm hS
   refine o_pure hS (.inl rfl) rfl rfl ?_; clear hS; try clear tm
   intro tm hS
   refine o_pure hS (.inl rfl) rfl rfl ?_; clear hS; try clear tm
   intro tm hS
   obtain ⟨y2, hx5, h1⟩ := bindS h1
   refine o_ixA (k := 0) (r := (rI .i64)) hS (.inl rfl) rfl rfl rfl rfl (.inl rfl) u22 s3 hx5 ?_; clear hS; try clear tm
   intro tm hS
   refine o_ldF (r := (rI .i64)) (k := 0) hS (.inl rfl) rfl rfl rfl (.inl rfl) hx5 u3 rfl (flat_I _) rfl ?_; clear hS; try clear tm
   intro tm hS
   obtain ⟨q2, hx6, h1⟩ := bindS h1
   refine o_quo hS (.inl rfl) rfl rfl rfl hx6 ?_; clear hS; try clear tm
   intro tm hS
   obtain ⟨y3, hx7, h1⟩ := bindS h1
   refine o_ixA (k := 1) (r := (rI .i64)) hS (.inl rfl) rfl rfl rfl rfl (.inr (.inl rfl)) u22 s3 hx7 ?_; clear hS; try clear tm
   intro tm hS
   obtain ⟨l3, hx8, h1⟩ := bindS h1
   refine o_stE (k := 1) (r := (rI .i64)) hS (.inl rfl) rfl rfl rfl s3 rfl rfl (rd_flat fun _ => rfl) hx8 ?_; clear hS; try clear H
   intro H hS
   refine o_pure hS (.inl rfl) rfl rfl ?_; clear hS; try clear tm
   intro tm hS
   refine o_nil (hR _ _ ?_)
   clear hR R
   refine c_reg1 fun R hR => ?_
   refine o_pure hS (.inl rfl) rfl rfl ?_; clear hS; try clear tm
   intro tm hS
   refine o_pure hS (.inl rfl) rfl rfl ?_; clear hS; try clear tm
   intro tm hS
   refine o_pure hS (.inl rfl) rfl rfl ?_; clear hS; try clear tm
   intro tm hS
   refine o_nil (hR _ _ ?_)
   clear hR R
   obtain rfl := Option.some.inj h1
   refine ⟨_, rfl, ?_⟩
   change S wm 52 _ _ _ _ Fr; exact hS.keep (ka_cons rfl (ka_cons rfl (ka_cons rfl (ka_cons rfl ka_nil)))) (fun hI => (hI.sub (sc (sc sn))))
  ·replace h1 := iteF hc h1
   refine wpC.exit ?_
   obtain rfl := Option.some.inj h1
   obtain rfl := hq1 _ rfl
   refine And.intro rfl (blk_eq ?_)
   replace h0 := joinN h0
   refine c_reg fun R hR => ?_
   refine o_pure hS (.inl rfl) rfl rfl ?_; clear hS; try clear tm
   intro tm hS
   refine o_pure hS (.inl rfl) rfl rfl ?_; clear hS; try clear tm
   intro tm hS
   refine o_pure hS (.inl rfl) rfl rfl ?_; clear hS; try clear tm
   intro tm hS
   refine o_nil (hR _ _ ?_)
   clear hR R
   refine wpC.ret ?_
   obtain rfl := Option.some.inj h0
   refine Exists.intro _ (And.intro (rs_tmp hS rfl (rs_tmp hS rfl rs_nil)) ?_)
   have hI := hS.inv
   exact ⟨v2, rfl, (hI.sub (sd (sc sn)))⟩
theorem w39 {wm : Nat} {H : AHeap} {Fr : List Ent}  (s1 : (List Int))  (v1 : Value) (hI : Kn wm H [.fz (rI .i64) v1 s1] Fr) {r : Bool} (h0 : M.shape_sized s1 = some r) :
  wpF Try.prog ora wm 39 [v1] H (fun res H => res = .bool r ∧ Kn wm H [] Fr) := by
 unfold M.shape_sized at h0
 refine f_enter (n := 12) Try.func39 rfl (by simp) hI rfl rfl rfl fun tm hS => ?_
 clear hI
 refine c_reg fun R hR => ?_
 refine o_pure hS (.inl rfl) rfl rfl ?_; clear hS; try clear tm
 intro tm hS
 refine o_nil (hR _ _ ?_)
 clear hR R
 refine c_reg fun R hR => ?_
 refine o_pure hS (.inl rfl) rfl rfl ?_; clear hS; try clear tm
 intro tm hS
 obtain ⟨⟨r1, r2⟩, hx1, h0⟩ := bindS h0
 refine o_call hS (.inl rfl) rfl (fun wm' hw1 hw2 => w21  s1  v1 ((hS.sel hw2).ad 0 rfl) hx1) (fun wm' res H hw' hp => ?_)
 obtain ⟨hres, hI⟩ := hp
 replace hres := hres.symm; subst hres
 replace hS : S wm 12 _ H ((7, .tuple #[.int .i64 r1, .int .i64 r2]) :: _) ([] ++ _) Fr := hS.after rfl hw' hI
 clear hI hw'
 refine o_pure hS (.inl rfl) rfl rfl ?_; clear hS; try clear tm
 intro tm hS
 refine o_pure hS (.inl rfl) rfl rfl ?_; clear hS; try clear tm
 intro tm hS
 refine o_pure hS (.inl rfl) rfl rfl ?_; clear hS; try clear tm
 intro tm hS
 refine o_pure hS (.inl rfl) rfl rfl ?_; clear hS; try clear tm
 intro tm hS
 refine o_pure hS (.inl rfl) rfl rfl ?_; clear hS; try clear tm
 intro tm hS
 refine o_nil (hR _ _ ?_)
 clear hR R
 refine c_reg fun R hR => ?_
 refine o_pure hS (.inl rfl) rfl rfl ?_; clear hS; try clear tm
 intro tm hS
 refine o_pure hS (.inl rfl) rfl rfl ?_; clear hS; try clear tm
 intro tm hS
 refine o_pure hS (.inl rfl) rfl rfl ?_; clear hS; try clear tm
 intro tm hS
 refine o_nil (hR _ _ ?_)
 clear hR R
 refine wpC.ret ?_
 obtain rfl := Option.some.inj h0
 refine Exists.intro _ (And.intro (rs_tmp hS rfl rs_nil) ?_)
 have hI := hS.inv
 exact ⟨rfl, (hI.sub sn)⟩
theorem w16 {wm : Nat} {H : AHeap} {Fr : List Ent}  (s1 : (List Int)) (at1 : (List Int))  (v1 : Value) (v2 : Value) (hI : Kn wm H [.fz (rI .i64) v1 s1, .fz (rI .i64) v2 at1] Fr) {r : Int × Bool} (h0 : M.shape_Offset s1 at1 = some r) :
  wpF Try.prog ora wm 16 [v1, v2] H (fun res H => res = .tuple #[.int .i64 r.1, .bool r.2] ∧ Kn wm H [] Fr) := by
 unfold M.shape_Offset at h0
 refine f_enter (n := 46) Try.func16 rfl (by simp) hI rfl rfl rfl fun tm hS => ?_
 clear hI
 refine c_reg fun R hR => ?_
 refine o_pure hS (.inl rfl) rfl rfl ?_; clear hS; try clear tm
 intro tm hS
 refine o_pure hS (.inl rfl) rfl rfl ?_; clear hS; try clear tm
 intro tm hS
 refine o_nil (hR _ _ ?_)
 clear hR R
 refine c_seqS ?_
 refine c_reg fun R hR => ?_
 refine o_pure hS (.inl rfl) rfl rfl ?_; clear hS; try clear tm
 intro tm hS
 refine o_len (k := 1) (r := (rI .i64)) hS (.inl rfl) rfl rfl rfl (.inl rfl) u22 rfl ?_; clear hS; try clear tm
 intro tm hS
 refine o_pure hS (.inl rfl) rfl rfl ?_; clear hS; try clear tm
 intro tm hS
 refine o_len (k := 0) (r := (rI .i64)) hS (.inl rfl) rfl rfl rfl (.inl rfl) u22 rfl ?_; clear hS; try clear tm
 intro tm hS
 refine o_pure hS (.inl rfl) rfl rfl ?_; clear hS; try clear tm
 intro tm hS
 refine o_pure hS (.inl rfl) rfl rfl ?_; clear hS; try clear tm
 intro tm hS
 obtain ⟨c1, hc1, h0⟩ := bindS h0
 refine o_cutN 4 (J := fun tm H => S wm 46 tm H [(18, .bool c1), (0, v1), (1, v2)] [.fz (rI .i64) v1 s1, .fz (rI .i64) v2 at1] Fr) ?_ ?_
 ·rcases Bool.eq_false_or_eq_true ((at1.length : Int) != (s1.length : Int)) with hg1 | hg1
  ·replace hc1 := iteT hg1 hc1
   refine o_skip hS rfl rfl rfl hg1 ?_; clear hS; try clear tm
   intro tm hS
   refine o_skip hS rfl rfl rfl hg1 ?_; clear hS; try clear tm
   intro tm hS
   refine o_skip hS rfl rfl rfl hg1 ?_; clear hS; try clear tm
   intro tm hS
   refine o_pickT hS (.inl rfl) rfl rfl hg1 rfl ?_; clear hS; try clear tm
   intro tm hS
   obtain rfl := Option.some.inj hc1
   exact o_nil (hS.keep (ka_cons rfl (ka_cons rfl (ka_cons rfl ka_nil))) (fun hI => (hI.sub (sc (sc sn)))))
  ·replace hc1 := iteF hg1 hc1
   refine o_pure hS (.inr ⟨_, _, _, _, rfl, rfl, rfl, hg1⟩) rfl rfl ?_; clear hS; try clear tm
   intro tm hS
   obtain ⟨r1, hx1, hc1⟩ := bindS hc1
   refine o_call hS (.inr ⟨_, _, _, _, rfl, rfl, rfl, hg1⟩) rfl (fun wm' hw1 hw2 => w39  s1  v1 ((hS.sel hw2).ad 0 rfl) hx1) (fun wm' res H hw' hp => ?_)
   obtain ⟨hres, hI⟩ := hp
   replace hres := hres.symm; subst hres
   replace hS : S wm 46 _ H ((16, .bool r1) :: _) ([] ++ _) Fr := hS.after rfl hw' hI
   clear hI hw'
   refine o_pure hS (.inr ⟨_, _, _, _, rfl, rfl, rfl, hg1⟩) rfl rfl ?_; clear hS; try clear tm
   intro tm hS
   refine o_pickF hS (.inl rfl) rfl rfl hg1 rfl ?_; clear hS; try clear tm
   intro tm hS
   obtain rfl := Option.some.inj hc1
   exact o_nil (hS.keep (ka_cons rfl (ka_cons rfl (ka_cons rfl ka_nil))) (fun hI => (hI.sub (sc (sc sn)))))
 intro tm H hS
 refine o_nil (hR _ _ ?_)
 clear hR R
 refine c_cond hS rfl (fun hc => ?_) (fun hc => ?_)
 ·replace h0 := iteT hc h0
  refine c_reg fun R hR => ?_
  refine o_pure hS (.inl rfl) rfl rfl ?_; clear hS; try clear tm
  intro tm hS
  refine o_pure hS (.inl rfl) rfl rfl ?_; clear hS; try clear tm
  intro tm hS
  refine o_nil (hR _ _ ?_)
  clear hR R
  refine wpC.ret ?_
  obtain rfl := Option.some.inj h0
  refine Exists.intro _ (And.intro (rs_tmp hS rfl (rs_tmp hS rfl rs_nil)) ?_)
  have hI := hS.inv
  exact ⟨rfl, (hI.sub sn)⟩
 ·replace h0 := iteF hc h0
  refine wpC.skip ?_
  refine c_reg fun R hR => ?_
  refine o_pure hS (.inl rfl) rfl rfl ?_; clear hS; try clear tm
  intro tm hS
  refine o_nil (hR _ _ ?_)
  clear hR R
  refine c_seqS ?_
  refine c_reg fun R hR => ?_
  refine o_pure hS (.inl rfl) rfl rfl ?_; clear hS; try clear tm
  intro tm hS
  refine o_len (k := 1) (r := (rI .i64)) hS (.inl rfl) rfl rfl rfl (.inl rfl) u22 rfl ?_; clear hS; try clear tm
  intro tm hS
  refine o_pure hS (.inl rfl) rfl rfl ?_; clear hS; try clear tm
  intro tm hS
  refine o_nil (hR _ _ ?_)
  clear hR R
  obtain ⟨k2, hw1, h0⟩ := bindS h0
  refine wpC.block ?_
  refine c_loop (I := fun (s : Int × Int) tm H => match (generalizing := false) s with | (k1, t1) => S wm 46 tm H [(0, v1), (6, .int .i64 k1), (19, v2), (20, .int .i64 (at1.length : Int)), (21, .int .i64 t1)] [.fz (rI .i64) v1 s1, .fz (rI .i64) v2 at1] Fr) hw1 (by change S wm 46 _ _ _ _ Fr; exact hS.keep (ka_cons rfl (ka_cons rfl (ka_cons rfl (ka_cons rfl (ka_cons rfl ka_nil))))) (fun hI => (hI.sub (sc (sc sn))))) ?_
  clear hS
  intro s2 tm H c2 hS h1 hq1
  obtain ⟨k1, t1⟩ := s2
  change S wm 46 tm H [(0, v1), (6, .int .i64 k1), (19, v2), (20, .int .i64 (at1.length : Int)), (21, .int .i64 t1)] [.fz (rI .i64) v1 s1, .fz (rI .i64) v2 at1] Fr at hS
  refine c_reg fun R hR => ?_
  refine o_pure hS (.inl rfl) rfl rfl ?_; clear hS; try clear tm
  intro tm hS
  refine o_nil (hR _ _ ?_)
  clear hR R
  refine c_seqS ?_
  refine c_cond hS rfl (fun hc => ?_) (fun hc => ?_)
  ·replace h1 := iteT hc h1
   refine wpC.skip ?_
   refine c_seqS ?_
   refine wpC.block ?_
   refine c_reg fun R hR => ?_
   refine o_pure hS (.inl rfl) rfl rfl ?_; clear hS; try clear tm
   intro tm hS
   obtain ⟨y1, hx2, h1⟩ := bindS h1
   refine o_ixA (k := 1) (r := (rI .i64)) hS (.inl rfl) rfl rfl rfl rfl (.inl rfl) u22 s3 hx2 ?_; clear hS; try clear tm
   intro tm hS
   refine o_ldF (r := (rI .i64)) (k := 1) hS (.inl rfl) rfl rfl rfl (.inl rfl) hx2 u3 rfl (flat_I _) rfl ?_; clear hS; try clear tm
   intro tm hS
   refine o_pure hS (.inl rfl) rfl rfl ?_; clear hS; try clear tm
   intro tm hS
   refine o_pure hS (.inl rfl) rfl rfl ?_; clear hS; try clear tm
   intro tm hS
   refine o_nil (hR _ _ ?_)
   clear hR R
   refine c_seqS ?_
   refine c_reg fun R hR => ?_
   refine o_pure hS (.inl rfl) rfl rfl ?_; clear hS; try clear tm
   intro tm hS
   refine o_pure hS (.inl rfl) rfl rfl ?_; clear hS; try clear tm
   intro tm hS
   refine o_pure hS (.inl rfl) rfl rfl ?_; clear hS; try clear tm
   intro tm hS
   obtain ⟨c3, hc2, h1⟩ := bindS h1
   refine o_cutN 7 (J := fun tm H => S wm 46 tm H [(35, .bool c3), (0, v1), (6, .int .i64 k1), (19, v2), (20, .int .i64 (at1.length : Int)), (21, .int .i64 t1), (7, .int .i64 t1), (8, .int .i64 y1)] [.fz (rI .i64) v1 s1, .fz (rI .i64) v2 at1] Fr) ?_ ?_
   ·rcases Bool.eq_false_or_eq_true (decide (y1 < 0)) with hg2 | hg2
    ·replace hc2 := iteT hg2 hc2
     refine o_skip hS rfl rfl rfl hg2 ?_; clear hS; try clear tm
     intro tm hS
     refine o_skip hS rfl rfl rfl hg2 ?_; clear hS; try clear tm
     intro tm hS
     refine o_skip hS rfl rfl rfl hg2 ?_; clear hS; try clear tm
     intro tm hS
     refine o_skip hS rfl rfl rfl hg2 ?_; clear hS; try clear tm
     intro tm hS
     refine o_skip hS rfl rfl rfl hg2 ?_; clear hS; try clear tm
     intro tm hS
     refine o_skip hS rfl rfl rfl hg2 ?_; clear hS; try clear tm
     intro tm hS
     refine o_pickT hS (.inl rfl) rfl rfl hg2 rfl ?_; clear hS; try clear tm
     intro tm hS
     obtain rfl := Option.some.inj hc2
     exact o_nil (hS.keep (ka_cons rfl (ka_cons rfl (ka_cons rfl (ka_cons rfl (ka_cons rfl (ka_cons rfl (ka_cons rfl (ka_cons rfl ka_nil)))))))) (fun hI => (hI.sub (sc (sc sn)))))
    ·replace hc2 := iteF hg2 hc2
     refine o_pure hS (.inr ⟨_, _, _, _, rfl, rfl, rfl, hg2⟩) rfl rfl ?_; clear hS; try clear tm
     intro tm hS
     refine o_pure hS (.inr ⟨_, _, _, _, rfl, rfl, rfl, hg2⟩) rfl rfl ?_; clear hS; try clear tm
     intro tm hS
     refine o_pure hS (.inr ⟨_, _, _, _, rfl, rfl, rfl, hg2⟩) rfl rfl ?_; clear hS; try clear tm
     intro tm hS
     obtain ⟨y2, hx3, hc2⟩ := bindS hc2
     refine o_ixA (k := 0) (r := (rI .i64)) hS (.inr ⟨_, _, _, _, rfl, rfl, rfl, hg2⟩) rfl rfl rfl rfl (.inl rfl) u22 s3 hx3 ?_; clear hS; try clear tm
     intro tm hS
     refine o_ldF (r := (rI .i64)) (k := 0) hS (.inr ⟨_, _, _, _, rfl, rfl, rfl, hg2⟩) rfl rfl rfl (.inl rfl) hx3 u3 rfl (flat_I _) rfl ?_; clear hS; try clear tm
     intro tm hS
     refine o_pure hS (.inr ⟨_, _, _, _, rfl, rfl, rfl, hg2⟩) rfl rfl ?_; clear hS; try clear tm
     intro tm hS
     refine o_pickF hS (.inl rfl) rfl rfl hg2 rfl ?_; clear hS; try clear tm
     intro tm hS
     obtain rfl := Option.some.inj hc2
     exact o_nil (hS.keep (ka_cons rfl (ka_cons rfl (ka_cons rfl (ka_cons rfl (ka_cons rfl (ka_cons rfl (ka_cons rfl (ka_cons rfl ka_nil)))))))) (fun hI => (hI.sub (sc (sc sn)))))
   intro tm H hS
   refine o_nil (hR _ _ ?_)
   clear hR R
   refine c_cond hS rfl (fun hc => ?_) (fun hc => ?_)
   ·replace h1 := iteT hc h1
    refine c_reg fun R hR => ?_
    refine o_pure hS (.inl rfl) rfl rfl ?_; clear hS; try clear tm
    intro tm hS
    refine o_pure hS (.inl rfl) rfl rfl ?_; clear hS; try clear tm
    intro tm hS
    refine o_nil (hR _ _ ?_)
    clear hR R
    refine wpC.ret ?_
    obtain rfl := Option.some.inj h1
    obtain rfl := hq1 _ rfl
    refine And.intro rfl ?_
    obtain rfl := leave h0
    refine Exists.intro _ (And.intro (rs_tmp hS rfl (rs_tmp hS rfl rs_nil)) ?_)
    have hI := hS.inv
    exact ⟨rfl, (hI.sub sn)⟩
   ·replace h1 := iteF hc h1
    refine wpC.skip ?_
    refine c_reg1 fun R hR => ?_
    refine o_pure hS (.inl rfl) rfl rfl ?_; clear hS; try clear tm
    intro tm hS
    refine o_pure hS (.inl rfl) rfl rfl ?_; clear hS; try clear tm
    intro tm hS
    refine o_pure hS (.inl rfl) rfl rfl ?_; clear hS; try clear tm
    intro tm hS
    obtain ⟨y3, hx4, h1⟩ := bindS h1
    refine o_ixA (k := 0) (r := (rI .i64)) hS (.inl rfl) rfl rfl rfl rfl (.inl rfl) u22 s3 hx4 ?_; clear hS; try clear tm
    intro tm hS
    refine o_ldF (r := (rI .i64)) (k := 0) hS (.inl rfl) rfl rfl rfl (.inl rfl) hx4 u3 rfl (flat_I _) rfl ?_; clear hS; try clear tm
    intro tm hS
    refine o_pure hS (.inl rfl) rfl rfl ?_; clear hS; try clear tm
    intro tm hS
    refine o_pure hS (.inl rfl) rfl rfl ?_; clear hS; try clear tm
    intro tm hS
    refine o_pure hS (.inl rfl) rfl rfl ?_; clear hS; try clear tm
    intro tm hS
    refine o_pure hS (.inl rfl) rfl rfl ?_; clear hS; try clear tm
    intro tm hS
    refine o_nil (hR _ _ ?_)
    clear hR R
    refine c_reg1 fun R hR => ?_
    refine o_pure hS (.inl rfl) rfl rfl ?_; clear hS; try clear tm
    intro tm hS
    refine o_pure hS (.inl rfl) rfl rfl ?_; clear hS; try clear tm
    intro tm hS
    refine o_nil (hR _ _ ?_)
    clear hR R
    obtain rfl := Option.some.inj h1
    refine ⟨_, rfl, ?_⟩
    change S wm 46 _ _ _ _ Fr; exact hS.keep (ka_cons rfl (ka_cons rfl (ka_cons rfl (ka_cons rfl (ka_cons rfl ka_nil))))) (fun hI => (hI.sub (sc (sc sn))))
  ·replace h1 := iteF hc h1
   refine wpC.exit ?_
   obtain rfl := Option.some.inj h1
   obtain rfl := hq1 _ rfl
   refine And.intro rfl (blk_eq ?_)
   replace h0 := joinN h0
   refine c_reg fun R hR => ?_
   refine o_pure hS (.inl rfl) rfl rfl ?_; clear hS; try clear tm
   intro tm hS
   refine o_pure hS (.inl rfl) rfl rfl ?_; clear hS; try clear tm
   intro tm hS
   refine o_pure hS (.inl rfl) rfl rfl ?_; clear hS; try clear tm
   intro tm hS
   refine o_nil (hR _ _ ?_)
   clear hR R
   refine wpC.ret ?_
   obtain rfl := Option.some.inj h0
   refine Exists.intro _ (And.intro (rs_tmp hS rfl (rs_tmp hS rfl rs_nil)) ?_)
   have hI := hS.inv
   exact ⟨rfl, (hI.sub sn)⟩
theorem w22 {wm : Nat} {H : AHeap} {Fr : List Ent}  (s1 : (List Int))  (v1 : Value) (hI : Kn wm H [.fz (rI .i64) v1 s1] Fr) {r : (List Int)} (h0 : M.shape_Strides s1 = some r) :
  wpF Try.prog ora wm 22 [v1] H (fun res H => ∃ v6, res = v6 ∧ Kn wm H [.own (rI .i64) v6 r] Fr) := by
 unfold M.shape_Strides at h0
 refine f_enter (n := 23) Try.func22 rfl (by simp) hI rfl rfl rfl fun tm hS => ?_
 clear hI
 refine c_reg fun R hR => ?_
 refine o_pure hS (.inl rfl) rfl rfl ?_; clear hS; try clear tm
 intro tm hS
 refine o_nil (hR _ _ ?_)
 clear hR R
 refine c_seqS ?_
 refine c_reg fun R hR => ?_
 refine o_pure hS (.inl rfl) rfl rfl ?_; clear hS; try clear tm
 intro tm hS
 obtain ⟨r1, hx1, h0⟩ := bindS h0
 refine o_call hS (.inl rfl) rfl (fun wm' hw1 hw2 => w39  s1  v1 ((hS.sel hw2).ad 0 rfl) hx1) (fun wm' res H hw' hp => ?_)
 obtain ⟨hres, hI⟩ := hp
 replace hres := hres.symm; subst hres
 replace hS : S wm 23 _ H ((6, .bool r1) :: _) ([] ++ _) Fr := hS.after rfl hw' hI
 clear hI hw'
 refine o_pure hS (.inl rfl) rfl rfl ?_; clear hS; try clear tm
 intro tm hS
 refine o_nil (hR _ _ ?_)
 clear hR R
 refine c_cond hS rfl (fun hc => ?_) (fun hc => ?_)
 ·replace h0 := iteT hc h0
  refine c_reg fun R hR => ?_
  refine o_pure hS (.inl rfl) rfl rfl ?_; clear hS; try clear tm
  intro tm hS
  refine o_nil (hR _ _ ?_)
  clear hR R
  refine wpC.ret ?_
  obtain rfl := Option.some.inj h0
  replace hS := hS.nilOwn (rI .i64)
  refine Exists.intro _ (And.intro (rs_tmp hS rfl rs_nil) ?_)
  have hI := hS.inv
  exact ⟨(.slice none 0 0), rfl, (hI.sub (sc sn))⟩
 ·replace h0 := iteF hc h0
  refine wpC.skip ?_
  refine c_reg fun R hR => ?_
  refine o_pure hS (.inl rfl) rfl rfl ?_; clear hS; try clear tm
  intro tm hS
  refine o_nil (hR _ _ ?_)
  clear hR R
  refine c_seqS ?_
  refine c_reg fun R hR => ?_
  refine o_pure hS (.inl rfl) rfl rfl ?_; clear hS; try clear tm
  intro tm hS
  refine o_len (k := 0) (r := (rI .i64)) hS (.inl rfl) rfl rfl rfl (.inl rfl) u22 rfl ?_; clear hS; try clear tm
  intro tm hS
  refine o_pure hS (.inl rfl) rfl rfl ?_; clear hS; try clear tm
  intro tm hS
  refine o_nil (hR _ _ ?_)
  clear hR R
  obtain ⟨k1, hw1, h0⟩ := bindS h0
  refine wpC.block ?_
  replace hS := hS.nilOwn (rI .i64)
  refine c_loop (I := fun (s : (List Int) × Int) tm H => match (generalizing := false) s with | (out1, t1) => ∃ v2, S wm 23 tm H [(0, v1), (3, v2), (9, .int .i64 (s1.length : Int)), (10, .int .i64 t1)] [.own (rI .i64) v2 out1, .fz (rI .i64) v1 s1] Fr) hw1 (by refine Exists.intro (.slice none 0 0) ?_; change S wm 23 _ _ _ _ Fr; exact hS.keep (ka_cons rfl (ka_cons rfl (ka_cons rfl (ka_cons rfl ka_nil)))) (fun hI => (hI.sub (sc (sc sn))))) ?_
  clear hS
  intro s2 tm H c1 hS h1 hq1
  obtain ⟨out1, t1⟩ := s2
  obtain ⟨v2, hS⟩ := hS
  change S wm 23 tm H [(0, v1), (3, v2), (9, .int .i64 (s1.length : Int)), (10, .int .i64 t1)] [.own (rI .i64) v2 out1, .fz (rI .i64) v1 s1] Fr at hS
  refine c_reg fun R hR => ?_
  refine o_pure hS (.inl rfl) rfl rfl ?_; clear hS; try clear tm
  intro tm hS
  refine o_nil (hR _ _ ?_)
  clear hR R
  refine c_seqS ?_
  refine c_cond hS rfl (fun hc => ?_) (fun hc => ?_)
  ·replace h1 := iteT hc h1
   refine wpC.skip ?_
   refine c_seqS ?_
   refine wpC.block ?_
   refine c_reg fun R hR => ?_
   refine o_pure hS (.inl rfl) rfl rfl ?_; clear hS; try clear tm
   intro tm hS
   refine o_pure hS (.inl rfl) rfl rfl ?_; clear hS; try clear tm
   intro tm hS
   refine o_nil (hR _ _ ?_)
   clear hR R
   refine c_reg1 fun R hR => ?_
   refine o_pure hS (.inl rfl) rfl rfl ?_; clear hS; try clear tm
   intro tm hS
   refine o_pure hS (.inl rfl) rfl rfl ?_; clear hS; try clear tm
   intro tm hS
   refine o_pure hS (.inl rfl) rfl rfl ?_; clear hS; try clear tm
   intro tm hS
   refine o_pure hS (.inl rfl) rfl rfl ?_; clear hS; try clear tm
   intro tm hS
   obtain ⟨l1, hx2, h1⟩ := bindS h1
   refine o_sl (k := 1) (r := (rI .i64)) hS (.inl rfl) rfl rfl rfl u22 s3 rfl rfl hx2 ?_; clear hS; try clear tm
   intro v3 tm hS
   obtain ⟨r2, hx3, h1⟩ := bindS h1
   refine o_call hS (.inl rfl) rfl (fun wm' hw1 hw2 => w45  l1  v3 ((hS.sel hw2).ad 0 rfl) hx3) (fun wm' res H hw' hp => ?_)
   obtain ⟨hres, hI⟩ := hp
   replace hres := hres.symm; subst hres
   replace hS : S wm 23 _ H ((18, .int .i64 r2) :: _) ([] ++ _) Fr := hS.after rfl hw' hI
   clear hI hw'
   refine o_lit (r := (rI .i64)) (l := [r2]) hS (.inl rfl) rfl l22 rfl rfl rfl (.cons rfl .nil) rfl rfl (ri_1 (rd_flat fun _ => rfl) ri_nil) rfl ?_; clear hS; try clear tm H
   intro v4 tm H hS
   obtain ⟨l2, hx4, h1⟩ := bindS h1
   refine o_app (k1 := 2) (k2 := 0) (r := (rI .i64)) hS (.inl rfl) rfl rfl rfl rfl rfl (.inr (.inr rfl)) rfl e22_22 rfl hx4 ?_; clear hS; try clear tm H
   intro v5 tm H hS
   refine o_pure hS (.inl rfl) rfl rfl ?_; clear hS; try clear tm
   intro tm hS
   refine o_nil (hR _ _ ?_)
   clear hR R
   refine c_reg1 fun R hR => ?_
   refine o_pure hS (.inl rfl) rfl rfl ?_; clear hS; try clear tm
   intro tm hS
   refine o_pure hS (.inl rfl) rfl rfl ?_; clear hS; try clear tm
   intro tm hS
   refine o_nil (hR _ _ ?_)
   clear hR R
   obtain rfl := Option.some.inj h1
   refine ⟨_, rfl, ?_⟩
   refine Exists.intro v5 ?_; change S wm 23 _ _ _ _ Fr; exact hS.keep (ka_cons rfl (ka_cons rfl (ka_cons rfl (ka_cons rfl ka_nil)))) (fun hI => (hI.sub (sd (sd (sc (sc sn))))))
  ·replace h1 := iteF hc h1
   refine wpC.exit ?_
   obtain rfl := Option.some.inj h1
   obtain rfl := hq1 _ rfl
   refine And.intro rfl (blk_eq ?_)
   replace h0 := joinN h0
   refine c_reg fun R hR => ?_
   refine o_pure hS (.inl rfl) rfl rfl ?_; clear hS; try clear tm
   intro tm hS
   refine o_pure hS (.inl rfl) rfl rfl ?_; clear hS; try clear tm
   intro tm hS
   refine o_nil (hR _ _ ?_)
   clear hR R
   refine wpC.ret ?_
   obtain rfl := Option.some.inj h0
   refine Exists.intro _ (And.intro (rs_tmp hS rfl rs_nil) ?_)
   have hI := hS.inv
   exact ⟨v2, rfl, (hI.sub (sc sn))⟩
theorem w4 {wm : Nat} {H : AHeap} {Fr : List Ent} (ho15 : ora 15 = true) (s1 : (List Int)) (k1 : Int)  (v1 : Value) (hI : Kn wm H [.fz (rI .i64) v1 s1] Fr) {r : Bool} (h0 : M.anamnesislaw03_ShapeBack s1 k1 = some r) :
  wpF Try.prog ora wm 4 [v1, .int .i64 k1] H (fun res H => res = .bool r ∧ Kn wm H [] Fr) := by
 unfold M.anamnesislaw03_ShapeBack at h0
 refine f_enter (n := 172) Try.func4 rfl (by simp) hI rfl rfl rfl fun tm hS => ?_
 clear hI
 refine c_reg fun R hR => ?_
 refine o_pure hS (.inl rfl) rfl rfl ?_; clear hS; try clear tm
 intro tm hS
 refine o_nil (hR _ _ ?_)
 clear hR R
 refine c_seqS ?_
 refine c_reg fun R hR => ?_
 refine o_pure hS (.inl rfl) rfl rfl ?_; clear hS; try clear tm
 intro tm hS
 refine o_len (k := 0) (r := (rI .i64)) hS (.inl rfl) rfl rfl rfl (.inl rfl) u22 rfl ?_; clear hS; try clear tm
 intro tm hS
 refine o_pure hS (.inl rfl) rfl rfl ?_; clear hS; try clear tm
 intro tm hS
 refine o_nil (hR _ _ ?_)
 clear hR R
 refine c_cond hS rfl (fun hc => ?_) (fun hc => ?_)
 ·replace h0 := iteT hc h0
  refine c_reg fun R hR => ?_
  refine o_call hS (.inl rfl) rfl (fun wm' hw1 hw2 => wpF.told ho15 (Q := fun v H' => v = .bool true ∧ H' = H) ⟨rfl, rfl⟩) (fun wm' res H hw' hp => ?_)
  obtain ⟨rfl, rfl⟩ := hp
  replace hS := hS.put (d := 20) rfl (.bool true)
  clear hw'
  refine o_pure hS (.inl rfl) rfl rfl ?_; clear hS; try clear tm
  intro tm hS
  refine o_nil (hR _ _ ?_)
  clear hR R
  refine wpC.ret ?_
  obtain rfl := Option.some.inj h0
  refine Exists.intro _ (And.intro (rs_tmp hS rfl rs_nil) ?_)
  have hI := hS.inv
  exact ⟨rfl, (hI.sub sn)⟩
 ·replace h0 := iteF hc h0
  refine wpC.skip ?_
  refine c_reg fun R hR => ?_
  refine o_pure hS (.inl rfl) rfl rfl ?_; clear hS; try clear tm
  intro tm hS
  obtain ⟨⟨r1, r2⟩, hx1, h0⟩ := bindS h0
  refine o_call hS (.inl rfl) rfl (fun wm' hw1 hw2 => w21  s1  v1 ((hS.sel hw2).ad 0 rfl) hx1) (fun wm' res H hw' hp => ?_)
  obtain ⟨hres, hI⟩ := hp
  replace hres := hres.symm; subst hres
  replace hS : S wm 172 _ H ((23, .tuple #[.int .i64 r1, .int .i64 r2]) :: _) ([] ++ _) Fr := hS.after rfl hw' hI
  clear hI hw'
  refine o_pure hS (.inl rfl) rfl rfl ?_; clear hS; try clear tm
  intro tm hS
  refine o_pure hS (.inl rfl) rfl rfl ?_; clear hS; try clear tm
  intro tm hS
  refine o_pure hS (.inl rfl) rfl rfl ?_; clear hS; try clear tm
  intro tm hS
  refine o_pure hS (.inl rfl) rfl rfl ?_; clear hS; try clear tm
  intro tm hS
  refine o_pure hS (.inl rfl) rfl rfl ?_; clear hS; try clear tm
  intro tm hS
  refine o_nil (hR _ _ ?_)
  clear hR R
  refine c_reg fun R hR => ?_
  refine o_pure hS (.inl rfl) rfl rfl ?_; clear hS; try clear tm
  intro tm hS
  refine o_pure hS (.inl rfl) rfl rfl ?_; clear hS; try clear tm
  intro tm hS
  obtain ⟨⟨r3, r4⟩, hx2, h0⟩ := bindS h0
  refine o_call hS (.inl rfl) rfl (fun wm' hw1 hw2 => w18  s1 k1  v1 ((hS.sel hw2).ad 0 rfl) hx2) (fun wm' res H hw' hp => ?_)
  obtain ⟨v2, hres, hI⟩ := hp
  replace hres := hres.symm; subst hres
  replace hS : S wm 172 _ H ((29, .tuple #[v2, .bool r4]) :: _) ([.own (rI .i64) v2 r3] ++ _) Fr := hS.after rfl hw' hI
  clear hI hw'
  refine o_pure hS (.inl rfl) rfl rfl ?_; clear hS; try clear tm
  intro tm hS
  refine o_pure hS (.inl rfl) rfl rfl ?_; clear hS; try clear tm
  intro tm hS
  refine o_pure hS (.inl rfl) rfl rfl ?_; clear hS; try clear tm
  intro tm hS
  refine o_pure hS (.inl rfl) rfl rfl ?_; clear hS; try clear tm
  intro tm hS
  refine o_pure hS (.inl rfl) rfl rfl ?_; clear hS; try clear tm
  intro tm hS
  refine o_nil (hR _ _ ?_)
  clear hR R
  refine c_seqS ?_
  refine c_reg fun R hR => ?_
  refine o_pure hS (.inl rfl) rfl rfl ?_; clear hS; try clear tm
  intro tm hS
  refine o_pure hS (.inl rfl) rfl rfl ?_; clear hS; try clear tm
  intro tm hS
  refine o_pure hS (.inl rfl) rfl rfl ?_; clear hS; try clear tm
  intro tm hS
  refine o_pure hS (.inl rfl) rfl rfl ?_; clear hS; try clear tm
  intro tm hS
  obtain ⟨c1, hc1⟩ : ∃ x : Bool, x = ((r2 == 0) && (decide (k1 ≥ 0))) := ⟨_, rfl⟩
  refine o_cutN 3 (J := fun tm H => S wm 172 tm H [(38, .bool c1), (0, v1), (1, .int .i64 k1), (5, .int .i64 r1), (7, v2), (8, .bool r4), (32, .bool r4)] [.own (rI .i64) v2 r3, .fz (rI .i64) v1 s1] Fr) ?_ ?_
  ·rcases Bool.eq_false_or_eq_true (r2 == 0) with hg1 | hg1
   ·refine o_pure hS (.inr ⟨_, _, _, _, rfl, rfl, rfl, hg1⟩) rfl rfl ?_; clear hS; try clear tm
    intro tm hS
    refine o_pure hS (.inr ⟨_, _, _, _, rfl, rfl, rfl, hg1⟩) rfl rfl ?_; clear hS; try clear tm
    intro tm hS
    refine o_pickT hS (.inl rfl) rfl rfl hg1 rfl ?_; clear hS; try clear tm
    intro tm hS
    have hc1 : c1 = (decide (k1 ≥ 0)) := hc1.trans (by rw [hg1]; first | rfl | simp)
    subst hc1
    exact o_nil (hS.keep (ka_cons rfl (ka_cons rfl (ka_cons rfl (ka_cons rfl (ka_cons rfl (ka_cons rfl (ka_cons rfl ka_nil))))))) (fun hI => (hI.sub (sc (sc sn)))))
   ·refine o_skip hS rfl rfl rfl hg1 ?_; clear hS; try clear tm
    intro tm hS
    refine o_skip hS rfl rfl rfl hg1 ?_; clear hS; try clear tm
    intro tm hS
    refine o_pickF hS (.inl rfl) rfl rfl hg1 rfl ?_; clear hS; try clear tm
    intro tm hS
    have hc1 : c1 = false := hc1.trans (by rw [hg1]; first | rfl | simp)
    subst hc1
    exact o_nil (hS.keep (ka_cons rfl (ka_cons rfl (ka_cons rfl (ka_cons rfl (ka_cons rfl (ka_cons rfl (ka_cons rfl ka_nil))))))) (fun hI => (hI.sub (sc (sc sn)))))
  intro tm H hS
  subst hc1
  refine o_pure hS (.inl rfl) rfl rfl ?_; clear hS; try clear tm
  intro tm hS
  obtain ⟨c2, hc2⟩ : ∃ x : Bool, x = (((r2 == 0) && (decide (k1 ≥ 0))) && (decide (k1 < r1))) := ⟨_, rfl⟩
  refine o_cutN 4 (J := fun tm H => S wm 172 tm H [(43, .bool c2), (0, v1), (1, .int .i64 k1), (7, v2), (8, .bool r4), (32, .bool r4)] [.own (rI .i64) v2 r3, .fz (rI .i64) v1 s1] Fr) ?_ ?_
  ·rcases Bool.eq_false_or_eq_true ((r2 == 0) && (decide (k1 ≥ 0))) with hg2 | hg2
   ·refine o_pure hS (.inr ⟨_, _, _, _, rfl, rfl, rfl, hg2⟩) rfl rfl ?_; clear hS; try clear tm
    intro tm hS
    refine o_pure hS (.inr ⟨_, _, _, _, rfl, rfl, rfl, hg2⟩) rfl rfl ?_; clear hS; try clear tm
    intro tm hS
    refine o_pure hS (.inr ⟨_, _, _, _, rfl, rfl, rfl, hg2⟩) rfl rfl ?_; clear hS; try clear tm
    intro tm hS
    refine o_pickT hS (.inl rfl) rfl rfl hg2 rfl ?_; clear hS; try clear tm
    intro tm hS
    have hc2 : c2 = (decide (k1 < r1)) := hc2.trans (by rw [hg2]; first | rfl | simp)
    subst hc2
    exact o_nil (hS.keep (ka_cons rfl (ka_cons rfl (ka_cons rfl (ka_cons rfl (ka_cons rfl (ka_cons rfl ka_nil)))))) (fun hI => (hI.sub (sc (sc sn)))))
   ·refine o_skip hS rfl rfl rfl hg2 ?_; clear hS; try clear tm
    intro tm hS
    refine o_skip hS rfl rfl rfl hg2 ?_; clear hS; try clear tm
    intro tm hS
    refine o_skip hS rfl rfl rfl hg2 ?_; clear hS; try clear tm
    intro tm hS
    refine o_pickF hS (.inl rfl) rfl rfl hg2 rfl ?_; clear hS; try clear tm
    intro tm hS
    have hc2 : c2 = false := hc2.trans (by rw [hg2]; first | rfl | simp)
    subst hc2
    exact o_nil (hS.keep (ka_cons rfl (ka_cons rfl (ka_cons rfl (ka_cons rfl (ka_cons rfl (ka_cons rfl ka_nil)))))) (fun hI => (hI.sub (sc (sc sn)))))
  intro tm H hS
  subst hc2
  refine o_pure hS (.inl rfl) rfl rfl ?_; clear hS; try clear tm
  intro tm hS
  refine o_nil (hR _ _ ?_)
  clear hR R
  refine c_cond hS rfl (fun hc => ?_) (fun hc => ?_)
  ·replace h0 := iteT hc h0
   refine c_reg fun R hR => ?_
   refine o_pure hS (.inl rfl) rfl rfl ?_; clear hS; try clear tm
   intro tm hS
   refine o_nil (hR _ _ ?_)
   clear hR R
   refine wpC.ret ?_
   obtain rfl := Option.some.inj h0
   refine Exists.intro _ (And.intro (rs_tmp hS rfl rs_nil) ?_)
   have hI := hS.inv
   exact ⟨rfl, (hI.sub sn)⟩
  ·replace h0 := iteF hc h0
   refine wpC.skip ?_
   refine c_seqS ?_
   refine c_reg fun R hR => ?_
   refine o_pure hS (.inl rfl) rfl rfl ?_; clear hS; try clear tm
   intro tm hS
   refine o_pure hS (.inl rfl) rfl rfl ?_; clear hS; try clear tm
   intro tm hS
   refine o_nil (hR _ _ ?_)
   clear hR R
   refine c_cond hS rfl (fun hc => ?_) (fun hc => ?_)
   ·replace h0 := iteT hc h0
    refine c_reg fun R hR => ?_
    refine o_pure hS (.inl rfl) rfl rfl ?_; clear hS; try clear tm
    intro tm hS
    refine o_len (k := 0) (r := (rI .i64)) hS (.inl rfl) rfl rfl rfl (.inr (.inl rfl)) u22 rfl ?_; clear hS; try clear tm
    intro tm hS
    refine o_pure hS (.inl rfl) rfl rfl ?_; clear hS; try clear tm
    intro tm hS
    refine o_pure hS (.inl rfl) rfl rfl ?_; clear hS; try clear tm
    intro tm hS
    obtain ⟨c3, hc3⟩ : ∃ x : Bool, x = (((r3.length : Int) == 0) && true) := ⟨_, rfl⟩
    refine o_cutN 2 (J := fun tm H => S wm 172 tm H [(52, .bool c3)] [] Fr) ?_ ?_
    ·rcases Bool.eq_false_or_eq_true ((r3.length : Int) == 0) with hg3 | hg3
     ·refine o_call hS (.inr ⟨_, _, _, _, rfl, rfl, rfl, hg3⟩) rfl (fun wm' hw1 hw2 => wpF.told ho15 (Q := fun v H' => v = .bool true ∧ H' = H) ⟨rfl, rfl⟩) (fun wm' res H hw' hp => ?_)
      obtain ⟨rfl, rfl⟩ := hp
      replace hS := hS.put (d := 51) rfl (.bool true)
      clear hw'
      refine o_pickT hS (.inl rfl) rfl rfl hg3 rfl ?_; clear hS; try clear tm
      intro tm hS
      have hc3 : c3 = true := hc3.trans (by rw [hg3]; first | rfl | simp)
      subst hc3
      exact o_nil (hS.keep (ka_cons rfl ka_nil) (fun hI => (hI.sub sn)))
     ·refine o_skip hS rfl rfl rfl hg3 ?_; clear hS; try clear tm
      intro tm hS
      refine o_pickF hS (.inl rfl) rfl rfl hg3 rfl ?_; clear hS; try clear tm
      intro tm hS
      have hc3 : c3 = false := hc3.trans (by rw [hg3]; first | rfl | simp)
      subst hc3
      exact o_nil (hS.keep (ka_cons rfl ka_nil) (fun hI => (hI.sub sn)))
    intro tm H hS
    subst hc3
    refine o_pure hS (.inl rfl) rfl rfl ?_; clear hS; try clear tm
    intro tm hS
    refine o_nil (hR _ _ ?_)
    clear hR R
    refine wpC.ret ?_
    obtain rfl := Option.some.inj h0
    refine Exists.intro _ (And.intro (rs_tmp hS rfl rs_nil) ?_)
    have hI := hS.inv
    exact ⟨rfl, (hI.sub sn)⟩
   ·replace h0 := iteF hc h0
    refine wpC.skip ?_
    refine c_reg fun R hR => ?_
    refine o_pure hS (.inl rfl) rfl rfl ?_; clear hS; try clear tm
    intro tm hS
    refine o_pure hS (.inl rfl) rfl rfl ?_; clear hS; try clear tm
    intro tm hS
    replace hS := hS.frz (k := 0) rfl
    obtain ⟨⟨r5, r6⟩, hx3, h0⟩ := bindS h0
    refine o_call hS (.inl rfl) rfl (fun wm' hw1 hw2 => w16  s1 r3  v1 v2 (((hS.sel hw2).ad 0 rfl).ad 1 rfl) hx3) (fun wm' res H hw' hp => ?_)
    obtain ⟨hres, hI⟩ := hp
    replace hres := hres.symm; subst hres
    replace hS : S wm 172 _ H ((56, .tuple #[.int .i64 r5, .bool r6]) :: _) ([] ++ _) Fr := hS.after rfl hw' hI
    clear hI hw'
    refine o_pure hS (.inl rfl) rfl rfl ?_; clear hS; try clear tm
    intro tm hS
    refine o_pure hS (.inl rfl) rfl rfl ?_; clear hS; try clear tm
    intro tm hS
    refine o_pure hS (.inl rfl) rfl rfl ?_; clear hS; try clear tm
    intro tm hS
    refine o_pure hS (.inl rfl) rfl rfl ?_; clear hS; try clear tm
    intro tm hS
    refine o_pure hS (.inl rfl) rfl rfl ?_; clear hS; try clear tm
    intro tm hS
    refine o_nil (hR _ _ ?_)
    clear hR R
    refine c_reg fun R hR => ?_
    refine o_pure hS (.inl rfl) rfl rfl ?_; clear hS; try clear tm
    intro tm hS
    obtain ⟨r7, hx4, h0⟩ := bindS h0
    refine o_call hS (.inl rfl) rfl (fun wm' hw1 hw2 => w22  s1  v1 ((hS.sel hw2).ad 1 rfl) hx4) (fun wm' res H hw' hp => ?_)
    obtain ⟨v3, hres, hI⟩ := hp
    replace hres := hres.symm; subst hres
    replace hS : S wm 172 _ H ((60, v3) :: _) ([.own (rI .i64) v3 r7] ++ _) Fr := hS.after rfl hw' hI
    clear hI hw'
    refine o_pure hS (.inl rfl) rfl rfl ?_; clear hS; try clear tm
    intro tm hS
    refine o_nil (hR _ _ ?_)
    clear hR R
    refine c_seqS ?_
    refine c_reg fun R hR => ?_
    refine o_pure hS (.inl rfl) rfl rfl ?_; clear hS; try clear tm
    intro tm hS
    refine o_len (k := 1) (r := (rI .i64)) hS (.inl rfl) rfl rfl rfl (.inl rfl) u22 rfl ?_; clear hS; try clear tm
    intro tm hS
    refine o_pure hS (.inl rfl) rfl rfl ?_; clear hS; try clear tm
    intro tm hS
    refine o_len (k := 2) (r := (rI .i64)) hS (.inl rfl) rfl rfl rfl (.inl rfl) u22 rfl ?_; clear hS; try clear tm
    intro tm hS
    refine o_pure hS (.inl rfl) rfl rfl ?_; clear hS; try clear tm
    intro tm hS
    refine o_pure hS (.inl rfl) rfl rfl ?_; clear hS; try clear tm
    intro tm hS
    obtain ⟨c4, hc4⟩ : ∃ x : Bool, x = (((r3.length : Int) != (s1.length : Int)) || ((r7.length : Int) != (s1.length : Int))) := ⟨_, rfl⟩
    refine o_cutN 6 (J := fun tm H => S wm 172 tm H [(72, .bool c4), (0, v1), (1, .int .i64 k1), (7, v2), (9, .int .i64 r5), (10, .bool r6), (11, v3)] [.own (rI .i64) v3 r7, .fz (rI .i64) v2 r3, .fz (rI .i64) v1 s1] Fr) ?_ ?_
    ·rcases Bool.eq_false_or_eq_true ((r3.length : Int) != (s1.length : Int)) with hg4 | hg4
     ·refine o_skip hS rfl rfl rfl hg4 ?_; clear hS; try clear tm
      intro tm hS
      refine o_skip hS rfl rfl rfl hg4 ?_; clear hS; try clear tm
      intro tm hS
      refine o_skip hS rfl rfl rfl hg4 ?_; clear hS; try clear tm
      intro tm hS
      refine o_skip hS rfl rfl rfl hg4 ?_; clear hS; try clear tm
      intro tm hS
      refine o_skip hS rfl rfl rfl hg4 ?_; clear hS; try clear tm
      intro tm hS
      refine o_pickT hS (.inl rfl) rfl rfl hg4 rfl ?_; clear hS; try clear tm
      intro tm hS
      have hc4 : c4 = true := hc4.trans (by rw [hg4]; first | rfl | simp)
      subst hc4
      exact o_nil (hS.keep (ka_cons rfl (ka_cons rfl (ka_cons rfl (ka_cons rfl (ka_cons rfl (ka_cons rfl (ka_cons rfl ka_nil))))))) (fun hI => (hI.sub (sc (sc (sc sn))))))
     ·refine o_pure hS (.inr ⟨_, _, _, _, rfl, rfl, rfl, hg4⟩) rfl rfl ?_; clear hS; try clear tm
      intro tm hS
      refine o_len (k := 0) (r := (rI .i64)) hS (.inr ⟨_, _, _, _, rfl, rfl, rfl, hg4⟩) rfl rfl rfl (.inr (.inl rfl)) u22 rfl ?_; clear hS; try clear tm
      intro tm hS
      refine o_pure hS (.inr ⟨_, _, _, _, rfl, rfl, rfl, hg4⟩) rfl rfl ?_; clear hS; try clear tm
      intro tm hS
      refine o_len (k := 2) (r := (rI .i64)) hS (.inr ⟨_, _, _, _, rfl, rfl, rfl, hg4⟩) rfl rfl rfl (.inl rfl) u22 rfl ?_; clear hS; try clear tm
      intro tm hS
      refine o_pure hS (.inr ⟨_, _, _, _, rfl, rfl, rfl, hg4⟩) rfl rfl ?_; clear hS; try clear tm
      intro tm hS
      refine o_pickF hS (.inl rfl) rfl rfl hg4 rfl ?_; clear hS; try clear tm
      intro tm hS
      have hc4 : c4 = ((r7.length : Int) != (s1.length : Int)) := hc4.trans (by rw [hg4]; first | rfl | simp)
      subst hc4
      exact o_nil (hS.keep (ka_cons rfl (ka_cons rfl (ka_cons rfl (ka_cons rfl (ka_cons rfl (ka_cons rfl (ka_cons rfl ka_nil))))))) (fun hI => (hI.sub (sc (sc (sc sn))))))
    intro tm H hS
    subst hc4
    refine o_nil (hR _ _ ?_)
    clear hR R
    refine c_cond hS rfl (fun hc => ?_) (fun hc => ?_)
    ·replace h0 := iteT hc h0
     refine c_reg fun R hR => ?_
     refine o_pure hS (.inl rfl) rfl rfl ?_; clear hS; try clear tm
     intro tm hS
     refine o_nil (hR _ _ ?_)
     clear hR R
     refine wpC.ret ?_
     obtain rfl := Option.some.inj h0
     refine Exists.intro _ (And.intro (rs_tmp hS rfl rs_nil) ?_)
     have hI := hS.inv
     exact ⟨rfl, (hI.sub sn)⟩
    ·replace h0 := iteF hc h0
     refine wpC.skip ?_
     refine c_reg fun R hR => ?_
     refine o_pure hS (.inl rfl) rfl rfl ?_; clear hS; try clear tm
     intro tm hS
     refine o_nil (hR _ _ ?_)
     clear hR R
     refine c_seqS ?_
     refine c_reg fun R hR => ?_
     refine o_pure hS (.inl rfl) rfl rfl ?_; clear hS; try clear tm
     intro tm hS
     refine o_nil (hR _ _ ?_)
     clear hR R
     obtain ⟨k2, hw1, h0⟩ := bindS h0
     refine wpC.block ?_
     refine c_loop (I := fun (s : Int × Int) tm H => match (generalizing := false) s with | (sum1, i1) => S wm 172 tm H [(0, v1), (1, .int .i64 k1), (7, v2), (9, .int .i64 r5), (10, .bool r6), (11, v3), (12, .int .i64 sum1), (13, .int .i64 i1)] [.fz (rI .i64) v1 s1, .fz (rI .i64) v2 r3, .own (rI .i64) v3 r7] Fr) hw1 (by change S wm 172 _ _ _ _ Fr; exact hS.keep (ka_cons rfl (ka_cons rfl (ka_cons rfl (ka_cons rfl (ka_cons rfl (ka_cons rfl (ka_cons rfl (ka_cons rfl ka_nil)))))))) (fun hI => ((((hI.pull 0 rfl).pull 1 rfl).pull 2 rfl).take 3))) ?_
     clear hS
     intro s2 tm H c5 hS h1 hq1
     obtain ⟨sum1, i1⟩ := s2
     change S wm 172 tm H [(0, v1), (1, .int .i64 k1), (7, v2), (9, .int .i64 r5), (10, .bool r6), (11, v3), (12, .int .i64 sum1), (13, .int .i64 i1)] [.fz (rI .i64) v1 s1, .fz (rI .i64) v2 r3, .own (rI .i64) v3 r7] Fr at hS
     refine c_seqS ?_
     refine c_reg fun R hR => ?_
     refine o_pure hS (.inl rfl) rfl rfl ?_; clear hS; try clear tm
     intro tm hS
     refine o_pure hS (.inl rfl) rfl rfl ?_; clear hS; try clear tm
     intro tm hS
     refine o_len (k := 0) (r := (rI .i64)) hS (.inl rfl) rfl rfl rfl (.inl rfl) u22 rfl ?_; clear hS; try clear tm
     intro tm hS
     refine o_pure hS (.inl rfl) rfl rfl ?_; clear hS; try clear tm
     intro tm hS
     refine o_nil (hR _ _ ?_)
     clear hR R
     refine c_cond hS rfl (fun hc => ?_) (fun hc => ?_)
     ·replace h1 := iteT hc h1
      refine wpC.skip ?_
      refine c_seqS ?_
      refine wpC.block ?_
      refine c_seqS ?_
      refine c_reg fun R hR => ?_
      refine o_pure hS (.inl rfl) rfl rfl ?_; clear hS; try clear tm
      intro tm hS
      refine o_pure hS (.inl rfl) rfl rfl ?_; clear hS; try clear tm
      intro tm hS
      obtain ⟨y1, hx5, h1⟩ := bindS h1
      refine o_ixA (k := 1) (r := (rI .i64)) hS (.inl rfl) rfl rfl rfl rfl (.inl rfl) u22 s3 hx5 ?_; clear hS; try clear tm
      intro tm hS
      refine o_ldF (r := (rI .i64)) (k := 1) hS (.inl rfl) rfl rfl rfl (.inl rfl) hx5 u3 rfl (flat_I _) rfl ?_; clear hS; try clear tm
      intro tm hS
      refine o_pure hS (.inl rfl) rfl rfl ?_; clear hS; try clear tm
      intro tm hS
      refine o_pure hS (.inl rfl) rfl rfl ?_; clear hS; try clear tm
      intro tm hS
      obtain ⟨c6, hc5, h1⟩ := bindS h1
      refine o_cutN 10 (J := fun tm H => S wm 172 tm H [(94, .bool c6), (0, v1), (1, .int .i64 k1), (7, v2), (9, .int .i64 r5), (10, .bool r6), (11, v3), (12, .int .i64 sum1), (13, .int .i64 i1)] [.fz (rI .i64) v1 s1, .fz (rI .i64) v2 r3, .own (rI .i64) v3 r7] Fr) ?_ ?_
      ·rcases Bool.eq_false_or_eq_true (decide (y1 < 0)) with hg5 | hg5
       ·replace hc5 := iteT hg5 hc5
        refine o_skip hS rfl rfl rfl hg5 ?_; clear hS; try clear tm
        intro tm hS
        refine o_skip hS rfl rfl rfl hg5 ?_; clear hS; try clear tm
        intro tm hS
        refine o_skip hS rfl rfl rfl hg5 ?_; clear hS; try clear tm
        intro tm hS
        refine o_skip hS rfl rfl rfl hg5 ?_; clear hS; try clear tm
        intro tm hS
        refine o_skip hS rfl rfl rfl hg5 ?_; clear hS; try clear tm
        intro tm hS
        refine o_skip hS rfl rfl rfl hg5 ?_; clear hS; try clear tm
        intro tm hS
        refine o_skip hS rfl rfl rfl hg5 ?_; clear hS; try clear tm
        intro tm hS
        refine o_skip hS rfl rfl rfl hg5 ?_; clear hS; try clear tm
        intro tm hS
        refine o_skip hS rfl rfl rfl hg5 ?_; clear hS; try clear tm
        intro tm hS
        refine o_pickT hS (.inl rfl) rfl rfl hg5 rfl ?_; clear hS; try clear tm
        intro tm hS
        obtain rfl := Option.some.inj hc5
        exact o_nil (hS.keep (ka_cons rfl (ka_cons rfl (ka_cons rfl (ka_cons rfl (ka_cons rfl (ka_cons rfl (ka_cons rfl (ka_cons rfl (ka_cons rfl ka_nil))))))))) (fun hI => (hI.sub (sc (sc (sc sn))))))
       ·replace hc5 := iteF hg5 hc5
        refine o_pure hS (.inr ⟨_, _, _, _, rfl, rfl, rfl, hg5⟩) rfl rfl ?_; clear hS; try clear tm
        intro tm hS
        refine o_pure hS (.inr ⟨_, _, _, _, rfl, rfl, rfl, hg5⟩) rfl rfl ?_; clear hS; try clear tm
        intro tm hS
        obtain ⟨y2, hx6, hc5⟩ := bindS hc5
        refine o_ixA (k := 1) (r := (rI .i64)) hS (.inr ⟨_, _, _, _, rfl, rfl, rfl, hg5⟩) rfl rfl rfl rfl (.inl rfl) u22 s3 hx6 ?_; clear hS; try clear tm
        intro tm hS
        refine o_ldF (r := (rI .i64)) (k := 1) hS (.inr ⟨_, _, _, _, rfl, rfl, rfl, hg5⟩) rfl rfl rfl (.inl rfl) hx6 u3 rfl (flat_I _) rfl ?_; clear hS; try clear tm
        intro tm hS
        refine o_pure hS (.inr ⟨_, _, _, _, rfl, rfl, rfl, hg5⟩) rfl rfl ?_; clear hS; try clear tm
        intro tm hS
        refine o_pure hS (.inr ⟨_, _, _, _, rfl, rfl, rfl, hg5⟩) rfl rfl ?_; clear hS; try clear tm
        intro tm hS
        obtain ⟨y3, hx7, hc5⟩ := bindS hc5
        refine o_ixA (k := 0) (r := (rI .i64)) hS (.inr ⟨_, _, _, _, rfl, rfl, rfl, hg5⟩) rfl rfl rfl rfl (.inl rfl) u22 s3 hx7 ?_; clear hS; try clear tm
        intro tm hS
        refine o_ldF (r := (rI .i64)) (k := 0) hS (.inr ⟨_, _, _, _, rfl, rfl, rfl, hg5⟩) rfl rfl rfl (.inl rfl) hx7 u3 rfl (flat_I _) rfl ?_; clear hS; try clear tm
        intro tm hS
        refine o_pure hS (.inr ⟨_, _, _, _, rfl, rfl, rfl, hg5⟩) rfl rfl ?_; clear hS; try clear tm
        intro tm hS
        refine o_pickF hS (.inl rfl) rfl rfl hg5 rfl ?_; clear hS; try clear tm
        intro tm hS
        obtain rfl := Option.some.inj hc5
        exact o_nil (hS.keep (ka_cons rfl (ka_cons rfl (ka_cons rfl (ka_cons rfl (ka_cons rfl (ka_cons rfl (ka_cons rfl (ka_cons rfl (ka_cons rfl ka_nil))))))))) (fun hI => (hI.sub (sc (sc (sc sn))))))
      intro tm H hS
      refine o_nil (hR _ _ ?_)
      clear hR R
      refine c_cond hS rfl (fun hc => ?_) (fun hc => ?_)
      ·replace h1 := iteT hc h1
       refine c_reg fun R hR => ?_
       refine o_pure hS (.inl rfl) rfl rfl ?_; clear hS; try clear tm
       intro tm hS
       refine o_nil (hR _ _ ?_)
       clear hR R
       refine wpC.ret ?_
       obtain rfl := Option.some.inj h1
       obtain rfl := hq1 _ rfl
       refine And.intro rfl ?_
       obtain rfl := leave h0
       refine Exists.intro _ (And.intro (rs_tmp hS rfl rs_nil) ?_)
       have hI := hS.inv
       exact ⟨rfl, (hI.sub sn)⟩
      ·replace h1 := iteF hc h1
       refine wpC.skip ?_
       refine c_reg1 fun R hR => ?_
       refine o_pure hS (.inl rfl) rfl rfl ?_; clear hS; try clear tm
       intro tm hS
       refine o_pure hS (.inl rfl) rfl rfl ?_; clear hS; try clear tm
       intro tm hS
       refine o_pure hS (.inl rfl) rfl rfl ?_; clear hS; try clear tm
       intro tm hS
       obtain ⟨y4, hx8, h1⟩ := bindS h1
       refine o_ixA (k := 1) (r := (rI .i64)) hS (.inl rfl) rfl rfl rfl rfl (.inl rfl) u22 s3 hx8 ?_; clear hS; try clear tm
       intro tm hS
       refine o_ldF (r := (rI .i64)) (k := 1) hS (.inl rfl) rfl rfl rfl (.inl rfl) hx8 u3 rfl (flat_I _) rfl ?_; clear hS; try clear tm
       intro tm hS
       refine o_pure hS (.inl rfl) rfl rfl ?_; clear hS; try clear tm
       intro tm hS
       refine o_pure hS (.inl rfl) rfl rfl ?_; clear hS; try clear tm
       intro tm hS
       obtain ⟨y5, hx9, h1⟩ := bindS h1
       refine o_ixA (k := 2) (r := (rI .i64)) hS (.inl rfl) rfl rfl rfl rfl (.inr (.inl rfl)) u22 s3 hx9 ?_; clear hS; try clear tm
       intro tm hS
       refine o_ldF (r := (rI .i64)) (k := 2) hS (.inl rfl) rfl rfl rfl (.inr (.inl rfl)) hx9 u3 rfl (flat_I _) rfl ?_; clear hS; try clear tm
       intro tm hS
       refine o_pure hS (.inl rfl) rfl rfl ?_; clear hS; try clear tm
       intro tm hS
       refine o_pure hS (.inl rfl) rfl rfl ?_; clear hS; try clear tm
       intro tm hS
       refine o_pure hS (.inl rfl) rfl rfl ?_; clear hS; try clear tm
       intro tm hS
       refine o_nil (hR _ _ ?_)
       clear hR R
       refine c_reg1 fun R hR => ?_
       refine o_pure hS (.inl rfl) rfl rfl ?_; clear hS; try clear tm
       intro tm hS
       refine o_pure hS (.inl rfl) rfl rfl ?_; clear hS; try clear tm
       intro tm hS
       refine o_pure hS (.inl rfl) rfl rfl ?_; clear hS; try clear tm
       intro tm hS
       refine o_nil (hR _ _ ?_)
       clear hR R
       obtain rfl := Option.some.inj h1
       refine ⟨_, rfl, ?_⟩
       change S wm 172 _ _ _ _ Fr; exact hS.keep (ka_cons rfl (ka_cons rfl (ka_cons rfl (ka_cons rfl (ka_cons rfl (ka_cons rfl (ka_cons rfl (ka_cons rfl ka_nil)))))))) (fun hI => (hI.sub (sc (sc (sc sn)))))
     ·replace h1 := iteF hc h1
      refine wpC.exit ?_
      obtain rfl := Option.some.inj h1
      obtain rfl := hq1 _ rfl
      refine And.intro rfl (blk_eq ?_)
      replace h0 := joinN h0
      refine c_reg fun R hR => ?_
      refine o_pure hS (.inl rfl) rfl rfl ?_; clear hS; try clear tm
      intro tm hS
      refine o_pure hS (.inl rfl) rfl rfl ?_; clear hS; try clear tm
      intro tm hS
      refine o_pure hS (.inl rfl) rfl rfl ?_; clear hS; try clear tm
      intro tm hS
      obtain ⟨⟨r8, r9⟩, hx10, h0⟩ := bindS h0
      refine o_call hS (.inl rfl) rfl (fun wm' hw1 hw2 => w18  s1 (IntKind.i64.wrap (k1 + 1))  v1 ((hS.sel hw2).ad 0 rfl) hx10) (fun wm' res H hw' hp => ?_)
      obtain ⟨v4, hres, hI⟩ := hp
      replace hres := hres.symm; subst hres
      replace hS : S wm 172 _ H ((110, .tuple #[v4, .bool r9]) :: _) ([.own (rI .i64) v4 r8] ++ _) Fr := hS.after rfl hw' hI
      clear hI hw'
      refine o_pure hS (.inl rfl) rfl rfl ?_; clear hS; try clear tm
      intro tm hS
      refine o_pure hS (.inl rfl) rfl rfl ?_; clear hS; try clear tm
      intro tm hS
      refine o_pure hS (.inl rfl) rfl rfl ?_; clear hS; try clear tm
      intro tm hS
      refine o_pure hS (.inl rfl) rfl rfl ?_; clear hS; try clear tm
      intro tm hS
      refine o_pure hS (.inl rfl) rfl rfl ?_; clear hS; try clear tm
      intro tm hS
      refine o_nil (hR _ _ ?_)
      clear hR R
      obtain ⟨k3, h6, h0⟩ := bindS h0
      refine c_seqJ (J := fun tm H => ∃ st, k3 = .next st ∧ (match (generalizing := false) st with | _ => S wm 172 tm H [(1, .int .i64 k1), (9, .int .i64 r5), (10, .bool r6), (12, .int .i64 sum1)] [] Fr)) ?_ ?_
      ·refine c_reg fun R hR => ?_
       refine o_pure hS (.inl rfl) rfl rfl ?_; clear hS; try clear tm
       intro tm hS
       refine o_nil (hR _ _ ?_)
       clear hR R
       refine c_cond hS rfl (fun hc => ?_) (fun hc => ?_)
       ·replace h6 := iteT hc h6
        refine c_reg fun R hR => ?_
        refine o_pure hS (.inl rfl) rfl rfl ?_; clear hS; try clear tm
        intro tm hS
        refine o_nil (hR _ _ ?_)
        clear hR R
        refine c_seqS ?_
        obtain ⟨k4, hw2, h6⟩ := bindS h6
        refine wpC.block ?_
        refine c_loop (I := fun (s : Int) tm H => match (generalizing := false) s with | i2 => S wm 172 tm H [(1, .int .i64 k1), (7, v2), (9, .int .i64 r5), (10, .bool r6), (12, .int .i64 sum1), (14, v4), (16, .int .i64 i2)] [.fz (rI .i64) v2 r3, .own (rI .i64) v4 r8] Fr) hw2 (by change S wm 172 _ _ _ _ Fr; exact hS.keep (ka_cons rfl (ka_cons rfl (ka_cons rfl (ka_cons rfl (ka_cons rfl (ka_cons rfl (ka_cons rfl ka_nil))))))) (fun hI => (((hI.pull 0 rfl).pull 2 rfl).take 2))) ?_
        clear hS
        intro i2 tm H c7 hS h7 hq7
        change S wm 172 tm H [(1, .int .i64 k1), (7, v2), (9, .int .i64 r5), (10, .bool r6), (12, .int .i64 sum1), (14, v4), (16, .int .i64 i2)] [.fz (rI .i64) v2 r3, .own (rI .i64) v4 r8] Fr at hS
        refine c_seqS ?_
        refine c_reg fun R hR => ?_
        refine o_pure hS (.inl rfl) rfl rfl ?_; clear hS; try clear tm
        intro tm hS
        refine o_pure hS (.inl rfl) rfl rfl ?_; clear hS; try clear tm
        intro tm hS
        refine o_len (k := 0) (r := (rI .i64)) hS (.inl rfl) rfl rfl rfl (.inl rfl) u22 rfl ?_; clear hS; try clear tm
        intro tm hS
        refine o_pure hS (.inl rfl) rfl rfl ?_; clear hS; try clear tm
        intro tm hS
        refine o_pure hS (.inl rfl) rfl rfl ?_; clear hS; try clear tm
        intro tm hS
        obtain ⟨c8, hc6⟩ : ∃ x : Bool, x = ((decide (i2 < (r3.length : Int))) && (decide (i2 < (r8.length : Int)))) := ⟨_, rfl⟩
        refine o_cutN 5 (J := fun tm H => S wm 172 tm H [(123, .bool c8), (1, .int .i64 k1), (7, v2), (9, .int .i64 r5), (10, .bool r6), (12, .int .i64 sum1), (14, v4), (16, .int .i64 i2)] [.fz (rI .i64) v2 r3, .own (rI .i64) v4 r8] Fr) ?_ ?_
        ·rcases Bool.eq_false_or_eq_true (decide (i2 < (r3.length : Int))) with hg6 | hg6
         ·refine o_pure hS (.inr ⟨_, _, _, _, rfl, rfl, rfl, hg6⟩) rfl rfl ?_; clear hS; try clear tm
          intro tm hS
          refine o_pure hS (.inr ⟨_, _, _, _, rfl, rfl, rfl, hg6⟩) rfl rfl ?_; clear hS; try clear tm
          intro tm hS
          refine o_len (k := 1) (r := (rI .i64)) hS (.inr ⟨_, _, _, _, rfl, rfl, rfl, hg6⟩) rfl rfl rfl (.inr (.inl rfl)) u22 rfl ?_; clear hS; try clear tm
          intro tm hS
          refine o_pure hS (.inr ⟨_, _, _, _, rfl, rfl, rfl, hg6⟩) rfl rfl ?_; clear hS; try clear tm
          intro tm hS
          refine o_pickT hS (.inl rfl) rfl rfl hg6 rfl ?_; clear hS; try clear tm
          intro tm hS
          have hc6 : c8 = (decide (i2 < (r8.length : Int))) := hc6.trans (by rw [hg6]; first | rfl | simp)
          subst hc6
          exact o_nil (hS.keep (ka_cons rfl (ka_cons rfl (ka_cons rfl (ka_cons rfl (ka_cons rfl (ka_cons rfl (ka_cons rfl (ka_cons rfl ka_nil)))))))) (fun hI => (hI.sub (sc (sc sn)))))
         ·refine o_skip hS rfl rfl rfl hg6 ?_; clear hS; try clear tm
          intro tm hS
          refine o_skip hS rfl rfl rfl hg6 ?_; clear hS; try clear tm
          intro tm hS
          refine o_skip hS rfl rfl rfl hg6 ?_; clear hS; try clear tm
          intro tm hS
          refine o_skip hS rfl rfl rfl hg6 ?_; clear hS; try clear tm
          intro tm hS
          refine o_pickF hS (.inl rfl) rfl rfl hg6 rfl ?_; clear hS; try clear tm
          intro tm hS
          have hc6 : c8 = false := hc6.trans (by rw [hg6]; first | rfl | simp)
          subst hc6
          exact o_nil (hS.keep (ka_cons rfl (ka_cons rfl (ka_cons rfl (ka_cons rfl (ka_cons rfl (ka_cons rfl (ka_cons rfl (ka_cons rfl ka_nil)))))))) (fun hI => (hI.sub (sc (sc sn)))))
        intro tm H hS
        subst hc6
        refine o_pure hS (.inl rfl) rfl rfl ?_; clear hS; try clear tm
        intro tm hS
        obtain ⟨c9, hc7, h7⟩ := bindS h7
        refine o_cutN 10 (J := fun tm H => S wm 172 tm H [(134, .bool c9), (1, .int .i64 k1), (7, v2), (9, .int .i64 r5), (10, .bool r6), (12, .int .i64 sum1), (14, v4), (16, .int .i64 i2)] [.fz (rI .i64) v2 r3, .own (rI .i64) v4 r8] Fr) ?_ ?_
        ·rcases Bool.eq_false_or_eq_true ((decide (i2 < (r3.length : Int))) && (decide (i2 < (r8.length : Int)))) with hg7 | hg7
         ·replace hc7 := iteT hg7 hc7
          refine o_pure hS (.inr ⟨_, _, _, _, rfl, rfl, rfl, hg7⟩) rfl rfl ?_; clear hS; try clear tm
          intro tm hS
          refine o_pure hS (.inr ⟨_, _, _, _, rfl, rfl, rfl, hg7⟩) rfl rfl ?_; clear hS; try clear tm
          intro tm hS
          obtain ⟨y6, hx11, hc7⟩ := bindS hc7
          refine o_ixA (k := 0) (r := (rI .i64)) hS (.inr ⟨_, _, _, _, rfl, rfl, rfl, hg7⟩) rfl rfl rfl rfl (.inl rfl) u22 s3 hx11 ?_; clear hS; try clear tm
          intro tm hS
          refine o_ldF (r := (rI .i64)) (k := 0) hS (.inr ⟨_, _, _, _, rfl, rfl, rfl, hg7⟩) rfl rfl rfl (.inl rfl) hx11 u3 rfl (flat_I _) rfl ?_; clear hS; try clear tm
          intro tm hS
          refine o_pure hS (.inr ⟨_, _, _, _, rfl, rfl, rfl, hg7⟩) rfl rfl ?_; clear hS; try clear tm
          intro tm hS
          refine o_pure hS (.inr ⟨_, _, _, _, rfl, rfl, rfl, hg7⟩) rfl rfl ?_; clear hS; try clear tm
          intro tm hS
          obtain ⟨y7, hx12, hc7⟩ := bindS hc7
          refine o_ixA (k := 1) (r := (rI .i64)) hS (.inr ⟨_, _, _, _, rfl, rfl, rfl, hg7⟩) rfl rfl rfl rfl (.inr (.inl rfl)) u22 s3 hx12 ?_; clear hS; try clear tm
          intro tm hS
          refine o_ldF (r := (rI .i64)) (k := 1) hS (.inr ⟨_, _, _, _, rfl, rfl, rfl, hg7⟩) rfl rfl rfl (.inr (.inl rfl)) hx12 u3 rfl (flat_I _) rfl ?_; clear hS; try clear tm
          intro tm hS
          refine o_pure hS (.inr ⟨_, _, _, _, rfl, rfl, rfl, hg7⟩) rfl rfl ?_; clear hS; try clear tm
          intro tm hS
          refine o_pickT hS (.inl rfl) rfl rfl hg7 rfl ?_; clear hS; try clear tm
          intro tm hS
          obtain rfl := Option.some.inj hc7
          exact o_nil (hS.keep (ka_cons rfl (ka_cons rfl (ka_cons rfl (ka_cons rfl (ka_cons rfl (ka_cons rfl (ka_cons rfl (ka_cons rfl ka_nil)))))))) (fun hI => (hI.sub (sc (sc sn)))))
         ·replace hc7 := iteF hg7 hc7
          refine o_skip hS rfl rfl rfl hg7 ?_; clear hS; try clear tm
          intro tm hS
          refine o_skip hS rfl rfl rfl hg7 ?_; clear hS; try clear tm
          intro tm hS
          refine o_skip hS rfl rfl rfl hg7 ?_; clear hS; try clear tm
          intro tm hS
          refine o_skip hS rfl rfl rfl hg7 ?_; clear hS; try clear tm
          intro tm hS
          refine o_skip hS rfl rfl rfl hg7 ?_; clear hS; try clear tm
          intro tm hS
          refine o_skip hS rfl rfl rfl hg7 ?_; clear hS; try clear tm
          intro tm hS
          refine o_skip hS rfl rfl rfl hg7 ?_; clear hS; try clear tm
          intro tm hS
          refine o_skip hS rfl rfl rfl hg7 ?_; clear hS; try clear tm
          intro tm hS
          refine o_skip hS rfl rfl rfl hg7 ?_; clear hS; try clear tm
          intro tm hS
          refine o_pickF hS (.inl rfl) rfl rfl hg7 rfl ?_; clear hS; try clear tm
          intro tm hS
          obtain rfl := Option.some.inj hc7
          exact o_nil (hS.keep (ka_cons rfl (ka_cons rfl (ka_cons rfl (ka_cons rfl (ka_cons rfl (ka_cons rfl (ka_cons rfl (ka_cons rfl ka_nil)))))))) (fun hI => (hI.sub (sc (sc sn)))))
        intro tm H hS
        refine o_nil (hR _ _ ?_)
        clear hR R
        refine c_cond hS rfl (fun hc => ?_) (fun hc => ?_)
        ·replace h7 := iteT hc h7
         refine wpC.skip ?_
         refine wpC.block ?_
         refine c_reg1 fun R hR => ?_
         refine o_pure hS (.inl rfl) rfl rfl ?_; clear hS; try clear tm
         intro tm hS
         refine o_pure hS (.inl rfl) rfl rfl ?_; clear hS; try clear tm
         intro tm hS
         refine o_pure hS (.inl rfl) rfl rfl ?_; clear hS; try clear tm
         intro tm hS
         refine o_nil (hR _ _ ?_)
         clear hR R
         obtain rfl := Option.some.inj h7
         refine ⟨_, rfl, ?_⟩
         change S wm 172 _ _ _ _ Fr; exact hS.keep (ka_cons rfl (ka_cons rfl (ka_cons rfl (ka_cons rfl (ka_cons rfl (ka_cons rfl (ka_cons rfl ka_nil))))))) (fun hI => (hI.sub (sc (sc sn))))
        ·replace h7 := iteF hc h7
         refine wpC.exit ?_
         obtain rfl := Option.some.inj h7
         obtain rfl := hq7 _ rfl
         refine And.intro rfl (blk_eq ?_)
         replace h6 := joinN h6
         refine c_reg fun R hR => ?_
         refine o_pure hS (.inl rfl) rfl rfl ?_; clear hS; try clear tm
         intro tm hS
         refine o_pure hS (.inl rfl) rfl rfl ?_; clear hS; try clear tm
         intro tm hS
         refine o_len (k := 0) (r := (rI .i64)) hS (.inl rfl) rfl rfl rfl (.inl rfl) u22 rfl ?_; clear hS; try clear tm
         intro tm hS
         refine o_pure hS (.inl rfl) rfl rfl ?_; clear hS; try clear tm
         intro tm hS
         refine o_pure hS (.inl rfl) rfl rfl ?_; clear hS; try clear tm
         intro tm hS
         obtain ⟨c10, hc8⟩ : ∃ x : Bool, x = ((decide (i2 ≥ (r3.length : Int))) || (decide (i2 ≥ (r8.length : Int)))) := ⟨_, rfl⟩
         refine o_cutN 5 (J := fun tm H => S wm 172 tm H [(146, .bool c10), (1, .int .i64 k1), (7, v2), (9, .int .i64 r5), (10, .bool r6), (12, .int .i64 sum1), (14, v4), (16, .int .i64 i2)] [.fz (rI .i64) v2 r3, .own (rI .i64) v4 r8] Fr) ?_ ?_
         ·rcases Bool.eq_false_or_eq_true (decide (i2 ≥ (r3.length : Int))) with hg8 | hg8
          ·refine o_skip hS rfl rfl rfl hg8 ?_; clear hS; try clear tm
           intro tm hS
           refine o_skip hS rfl rfl rfl hg8 ?_; clear hS; try clear tm
           intro tm hS
           refine o_skip hS rfl rfl rfl hg8 ?_; clear hS; try clear tm
           intro tm hS
           refine o_skip hS rfl rfl rfl hg8 ?_; clear hS; try clear tm
           intro tm hS
           refine o_pickT hS (.inl rfl) rfl rfl hg8 rfl ?_; clear hS; try clear tm
           intro tm hS
           have hc8 : c10 = true := hc8.trans (by rw [hg8]; first | rfl | simp)
           subst hc8
           exact o_nil (hS.keep (ka_cons rfl (ka_cons rfl (ka_cons rfl (ka_cons rfl (ka_cons rfl (ka_cons rfl (ka_cons rfl (ka_cons rfl ka_nil)))))))) (fun hI => (hI.sub (sc (sc sn)))))
          ·refine o_pure hS (.inr ⟨_, _, _, _, rfl, rfl, rfl, hg8⟩) rfl rfl ?_; clear hS; try clear tm
           intro tm hS
           refine o_pure hS (.inr ⟨_, _, _, _, rfl, rfl, rfl, hg8⟩) rfl rfl ?_; clear hS; try clear tm
           intro tm hS
           refine o_len (k := 1) (r := (rI .i64)) hS (.inr ⟨_, _, _, _, rfl, rfl, rfl, hg8⟩) rfl rfl rfl (.inr (.inl rfl)) u22 rfl ?_; clear hS; try clear tm
           intro tm hS
           refine o_pure hS (.inr ⟨_, _, _, _, rfl, rfl, rfl, hg8⟩) rfl rfl ?_; clear hS; try clear tm
           intro tm hS
           refine o_pickF hS (.inl rfl) rfl rfl hg8 rfl ?_; clear hS; try clear tm
           intro tm hS
           have hc8 : c10 = (decide (i2 ≥ (r8.length : Int))) := hc8.trans (by rw [hg8]; first | rfl | simp)
           subst hc8
           exact o_nil (hS.keep (ka_cons rfl (ka_cons rfl (ka_cons rfl (ka_cons rfl (ka_cons rfl (ka_cons rfl (ka_cons rfl (ka_cons rfl ka_nil)))))))) (fun hI => (hI.sub (sc (sc sn)))))
         intro tm H hS
         subst hc8
         refine o_pure hS (.inl rfl) rfl rfl ?_; clear hS; try clear tm
         intro tm hS
         obtain ⟨c11, hc9, h6⟩ := bindS h6
         refine o_cutN 10 (J := fun tm H => S wm 172 tm H [(157, .bool c11), (1, .int .i64 k1), (9, .int .i64 r5), (10, .bool r6), (12, .int .i64 sum1)] [] Fr) ?_ ?_
         ·rcases Bool.eq_false_or_eq_true ((decide (i2 ≥ (r3.length : Int))) || (decide (i2 ≥ (r8.length : Int)))) with hg9 | hg9
          ·replace hc9 := iteT hg9 hc9
           refine o_skip hS rfl rfl rfl hg9 ?_; clear hS; try clear tm
           intro tm hS
           refine o_skip hS rfl rfl rfl hg9 ?_; clear hS; try clear tm
           intro tm hS
           refine o_skip hS rfl rfl rfl hg9 ?_; clear hS; try clear tm
           intro tm hS
           refine o_skip hS rfl rfl rfl hg9 ?_; clear hS; try clear tm
           intro tm hS
           refine o_skip hS rfl rfl rfl hg9 ?_; clear hS; try clear tm
           intro tm hS
           refine o_skip hS rfl rfl rfl hg9 ?_; clear hS; try clear tm
           intro tm hS
           refine o_skip hS rfl rfl rfl hg9 ?_; clear hS; try clear tm
           intro tm hS
           refine o_skip hS rfl rfl rfl hg9 ?_; clear hS; try clear tm
           intro tm hS
           refine o_skip hS rfl rfl rfl hg9 ?_; clear hS; try clear tm
           intro tm hS
           refine o_pickT hS (.inl rfl) rfl rfl hg9 rfl ?_; clear hS; try clear tm
           intro tm hS
           obtain rfl := Option.some.inj hc9
           exact o_nil (hS.keep (ka_cons rfl (ka_cons rfl (ka_cons rfl (ka_cons rfl (ka_cons rfl ka_nil))))) (fun hI => (hI.sub sn)))
          ·replace hc9 := iteF hg9 hc9
           refine o_pure hS (.inr ⟨_, _, _, _, rfl, rfl, rfl, hg9⟩) rfl rfl ?_; clear hS; try clear tm
           intro tm hS
           refine o_pure hS (.inr ⟨_, _, _, _, rfl, rfl, rfl, hg9⟩) rfl rfl ?_; clear hS; try clear tm
           intro tm hS
           obtain ⟨y8, hx13, hc9⟩ := bindS hc9
           refine o_ixA (k := 0) (r := (rI .i64)) hS (.inr ⟨_, _, _, _, rfl, rfl, rfl, hg9⟩) rfl rfl rfl rfl (.inl rfl) u22 s3 hx13 ?_; clear hS; try clear tm
           intro tm hS
           refine o_ldF (r := (rI .i64)) (k := 0) hS (.inr ⟨_, _, _, _, rfl, rfl, rfl, hg9⟩) rfl rfl rfl (.inl rfl) hx13 u3 rfl (flat_I _) rfl ?_; clear hS; try clear tm
           intro tm hS
           refine o_pure hS (.inr ⟨_, _, _, _, rfl, rfl, rfl, hg9⟩) rfl rfl ?_; clear hS; try clear tm
           intro tm hS
           refine o_pure hS (.inr ⟨_, _, _, _, rfl, rfl, rfl, hg9⟩) rfl rfl ?_; clear hS; try clear tm
           intro tm hS
           obtain ⟨y9, hx14, hc9⟩ := bindS hc9
           refine o_ixA (k := 1) (r := (rI .i64)) hS (.inr ⟨_, _, _, _, rfl, rfl, rfl, hg9⟩) rfl rfl rfl rfl (.inr (.inl rfl)) u22 s3 hx14 ?_; clear hS; try clear tm
           intro tm hS
           refine o_ldF (r := (rI .i64)) (k := 1) hS (.inr ⟨_, _, _, _, rfl, rfl, rfl, hg9⟩) rfl rfl rfl (.inr (.inl rfl)) hx14 u3 rfl (flat_I _) rfl ?_; clear hS; try clear tm
           intro tm hS
           refine o_pure hS (.inr ⟨_, _, _, _, rfl, rfl, rfl, hg9⟩) rfl rfl ?_; clear hS; try clear tm
           intro tm hS
           refine o_pickF hS (.inl rfl) rfl rfl hg9 rfl ?_; clear hS; try clear tm
           intro tm hS
           obtain rfl := Option.some.inj hc9
           exact o_nil (hS.keep (ka_cons rfl (ka_cons rfl (ka_cons rfl (ka_cons rfl (ka_cons rfl ka_nil))))) (fun hI => (hI.sub sn)))
         intro tm H hS
         refine o_nil (hR _ _ ?_)
         clear hR R
         refine c_cond hS rfl (fun hc => ?_) (fun hc => ?_)
         ·replace h6 := iteT hc h6
          refine c_reg fun R hR => ?_
          refine o_pure hS (.inl rfl) rfl rfl ?_; clear hS; try clear tm
          intro tm hS
          refine o_nil (hR _ _ ?_)
          clear hR R
          refine wpC.ret ?_
          obtain rfl := Option.some.inj h6
          obtain rfl := leave h0
          refine Exists.intro _ (And.intro (rs_tmp hS rfl rs_nil) ?_)
          have hI := hS.inv
          exact ⟨rfl, (hI.sub sn)⟩
         ·replace h6 := iteF hc h6
          refine wpC.skip ?_
          obtain rfl := Option.some.inj h6
          refine ⟨_, rfl, ?_⟩
          change S wm 172 _ _ _ _ Fr; exact hS.keep (ka_cons rfl (ka_cons rfl (ka_cons rfl (ka_cons rfl ka_nil)))) (fun hI => (hI.sub sn))
       ·replace h6 := iteF hc h6
        refine wpC.skip ?_
        obtain rfl := Option.some.inj h6
        refine ⟨_, rfl, ?_⟩
        change S wm 172 _ _ _ _ Fr; exact hS.keep (ka_cons rfl (ka_cons rfl (ka_cons rfl (ka_cons rfl ka_nil)))) (fun hI => (hI.sub sn))
      intro tm H hS
      obtain ⟨st1, rfl, hS⟩ := hS
      replace h0 := joinN h0
      change S wm 172 tm H [(1, .int .i64 k1), (9, .int .i64 r5), (10, .bool r6), (12, .int .i64 sum1)] [] Fr at hS
      refine c_reg fun R hR => ?_
      refine o_pure hS (.inl rfl) rfl rfl ?_; clear hS; try clear tm
      intro tm hS
      refine o_pure hS (.inl rfl) rfl rfl ?_; clear hS; try clear tm
      intro tm hS
      obtain ⟨c12, hc10⟩ : ∃ x : Bool, x = (r6 && (r5 == k1)) := ⟨_, rfl⟩
      refine o_cutN 4 (J := fun tm H => S wm 172 tm H [(163, .bool c12), (1, .int .i64 k1), (12, .int .i64 sum1)] [] Fr) ?_ ?_
      ·rcases Bool.eq_false_or_eq_true r6 with hg10 | hg10
       ·refine o_pure hS (.inr ⟨_, _, _, _, rfl, rfl, rfl, hg10⟩) rfl rfl ?_; clear hS; try clear tm
        intro tm hS
        refine o_pure hS (.inr ⟨_, _, _, _, rfl, rfl, rfl, hg10⟩) rfl rfl ?_; clear hS; try clear tm
        intro tm hS
        refine o_pure hS (.inr ⟨_, _, _, _, rfl, rfl, rfl, hg10⟩) rfl rfl ?_; clear hS; try clear tm
        intro tm hS
        refine o_pickT hS (.inl rfl) rfl rfl hg10 rfl ?_; clear hS; try clear tm
        intro tm hS
        have hc10 : c12 = (r5 == k1) := hc10.trans (by rw [hg10]; first | rfl | simp)
        subst hc10
        exact o_nil (hS.keep (ka_cons rfl (ka_cons rfl (ka_cons rfl ka_nil))) (fun hI => (hI.sub sn)))
       ·refine o_skip hS rfl rfl rfl hg10 ?_; clear hS; try clear tm
        intro tm hS
        refine o_skip hS rfl rfl rfl hg10 ?_; clear hS; try clear tm
        intro tm hS
        refine o_skip hS rfl rfl rfl hg10 ?_; clear hS; try clear tm
        intro tm hS
        refine o_pickF hS (.inl rfl) rfl rfl hg10 rfl ?_; clear hS; try clear tm
        intro tm hS
        have hc10 : c12 = false := hc10.trans (by rw [hg10]; first | rfl | simp)
        subst hc10
        exact o_nil (hS.keep (ka_cons rfl (ka_cons rfl (ka_cons rfl ka_nil))) (fun hI => (hI.sub sn)))
      intro tm H hS
      subst hc10
      refine o_pure hS (.inl rfl) rfl rfl ?_; clear hS; try clear tm
      intro tm hS
      obtain ⟨c13, hc11⟩ : ∃ x : Bool, x = ((r6 && (r5 == k1)) && (sum1 == k1)) := ⟨_, rfl⟩
      refine o_cutN 4 (J := fun tm H => S wm 172 tm H [(168, .bool c13)] [] Fr) ?_ ?_
      ·rcases Bool.eq_false_or_eq_true (r6 && (r5 == k1)) with hg11 | hg11
       ·refine o_pure hS (.inr ⟨_, _, _, _, rfl, rfl, rfl, hg11⟩) rfl rfl ?_; clear hS; try clear tm
        intro tm hS
        refine o_pure hS (.inr ⟨_, _, _, _, rfl, rfl, rfl, hg11⟩) rfl rfl ?_; clear hS; try clear tm
        intro tm hS
        refine o_pure hS (.inr ⟨_, _, _, _, rfl, rfl, rfl, hg11⟩) rfl rfl ?_; clear hS; try clear tm
        intro tm hS
        refine o_pickT hS (.inl rfl) rfl rfl hg11 rfl ?_; clear hS; try clear tm
        intro tm hS
        have hc11 : c13 = (sum1 == k1) := hc11.trans (by rw [hg11]; first | rfl | simp)
        subst hc11
        exact o_nil (hS.keep (ka_cons rfl ka_nil) (fun hI => (hI.sub sn)))
       ·refine o_skip hS rfl rfl rfl hg11 ?_; clear hS; try clear tm
        intro tm hS
        refine o_skip hS rfl rfl rfl hg11 ?_; clear hS; try clear tm
        intro tm hS
        refine o_skip hS rfl rfl rfl hg11 ?_; clear hS; try clear tm
        intro tm hS
        refine o_pickF hS (.inl rfl) rfl rfl hg11 rfl ?_; clear hS; try clear tm
        intro tm hS
        have hc11 : c13 = false := hc11.trans (by rw [hg11]; first | rfl | simp)
        subst hc11
        exact o_nil (hS.keep (ka_cons rfl ka_nil) (fun hI => (hI.sub sn)))
      intro tm H hS
      subst hc11
      refine o_pure hS (.inl rfl) rfl rfl ?_; clear hS; try clear tm
      intro tm hS
      obtain ⟨c14, hc12⟩ : ∃ x : Bool, x = (((r6 && (r5 == k1)) && (sum1 == k1)) && true) := ⟨_, rfl⟩
      refine o_cutN 2 (J := fun tm H => S wm 172 tm H [(171, .bool c14)] [] Fr) ?_ ?_
      ·rcases Bool.eq_false_or_eq_true ((r6 && (r5 == k1)) && (sum1 == k1)) with hg12 | hg12
       ·refine o_call hS (.inr ⟨_, _, _, _, rfl, rfl, rfl, hg12⟩) rfl (fun wm' hw1 hw2 => wpF.told ho15 (Q := fun v H' => v = .bool true ∧ H' = H) ⟨rfl, rfl⟩) (fun wm' res H hw' hp => ?_)
        obtain ⟨rfl, rfl⟩ := hp
        replace hS := hS.put (d := 170) rfl (.bool true)
        clear hw'
        refine o_pickT hS (.inl rfl) rfl rfl hg12 rfl ?_; clear hS; try clear tm
        intro tm hS
        have hc12 : c14 = true := hc12.trans (by rw [hg12]; first | rfl | simp)
        subst hc12
        exact o_nil (hS.keep (ka_cons rfl ka_nil) (fun hI => (hI.sub sn)))
       ·refine o_skip hS rfl rfl rfl hg12 ?_; clear hS; try clear tm
        intro tm hS
        refine o_pickF hS (.inl rfl) rfl rfl hg12 rfl ?_; clear hS; try clear tm
        intro tm hS
        have hc12 : c14 = false := hc12.trans (by rw [hg12]; first | rfl | simp)
        subst hc12
        exact o_nil (hS.keep (ka_cons rfl ka_nil) (fun hI => (hI.sub sn)))
      intro tm H hS
      subst hc12
      refine o_pure hS (.inl rfl) rfl rfl ?_; clear hS; try clear tm
      intro tm hS
      refine o_nil (hR _ _ ?_)
      clear hR R
      refine wpC.ret ?_
      obtain rfl := Option.some.inj h0
      refine Exists.intro _ (And.intro (rs_tmp hS rfl rs_nil) ?_)
      have hI := hS.inv
      exact ⟨rfl, (hI.sub sn)⟩
end Go.Proofs.Ytlcpnakgolfofaa.shapeBack
