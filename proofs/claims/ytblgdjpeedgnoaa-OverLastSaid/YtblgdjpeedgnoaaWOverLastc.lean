/- OverLast: walks of the code: the run of each function comes to what its plain function says. -/
import Derived.Test.YtblgdjpeedgnoaaWOverLastb
set_option maxHeartbeats 4000000
set_option linter.unusedVariables false
set_option linter.unusedSimpArgs false
set_option maxRecDepth 100000
open Go Go.Am Go.Proofs
namespace Go.Proofs.Ytblgdjpeedgnoaa.overLast
variable {ora : FuncId → Bool}
theorem wk7 {wm : Nat} {H : AHeap} {Fr : List Ent} (ho9 : ora 9 = true) (ho100 : ora 100 = false) (fn1 : ByteArray) (v1 : Val) (axis1 : Int)  (v2 : Value) (v3 : Value) (hI : Kn wm H [.fz (rI .i64) v2 v1.Shape, .fz (rI .i64) v3 v1.Data] Fr) {r : Bool} (h0 : M.anamnesislaw12_OverLast fn1 v1 axis1 = some r) :
  wpF Try.prog ora wm 7 [.string fn1, .agg #[.bool v1.Char, v2, v3], .int .i64 axis1] H (fun res H => res = .bool r ∧ Kn wm H [] Fr) := by
 unfold M.anamnesislaw12_OverLast at h0
 refine f_enter (n := 166) Try.func7 rfl (by simp) hI rfl rfl rfl fun tm hS => ?_
 clear hI
 refine c_reg fun R hR => ?_
 refine o_box hS (.inl rfl) rfl rfl rfl (all_cons rfl (all_cons (hS.one (k := 0) rfl (.inl rfl)) (all_cons (hS.one (k := 1) rfl (.inl rfl)) all_nil))) ?_; clear hS
 intro b1 tm H hS
 refine pp1 hS rfl rfl ?_; clear hS
 intro tm hS
 refine o_nil (hR _ _ ?_)
 clear hR R
 refine c_seqS ?_
 refine c_reg fun R hR => ?_
 refine o_ldA (k := 0) hS (.inl rfl) rfl rfl rfl (.inl rfl) Fu25 rfl Fs25 rfl ?_; clear hS
 intro tm hS
 refine pp1 hS rfl rfl ?_; clear hS
 intro tm hS
 obtain ⟨r1, hx1, h0⟩ := bindS h0
 refine o_call hS (.inl rfl) rfl (fun wm' hw1 hw2 => wk13  v1 fn1  v2 v3 (((hS.sel hw2).ad 2 rfl).ad 1 rfl) hx1) (fun wm' res H hw' hp => ?_)
 obtain ⟨hres, hI⟩ := hp
 replace hres := hres.symm; subst hres
 replace hS : S wm 166 _ H ((24, .bool r1) :: _) ([] ++ _) Fr := hS.after rfl hw' hI
 clear hI hw'
 refine o_nil (hR _ _ ?_)
 clear hR R
 refine c_cond hS rfl (fun hc => ?_) (fun hc => ?_)
 ·replace h0 := iteT hc h0
  refine c_reg fun R hR => ?_
  refine o_call hS (.inl rfl) rfl (fun wm' hw1 hw2 => wpF.told ho9 (Q := fun v H' => v = .bool true ∧ H' = H) ⟨rfl, rfl⟩) (fun wm' res H hw' hp => ?_)
  obtain ⟨rfl, rfl⟩ := hp
  replace hS := hS.put (d := 25) rfl (.bool true)
  clear hw'
  refine pp1 hS rfl rfl ?_; clear hS
  intro tm hS
  refine o_nil (hR _ _ ?_)
  clear hR R
  refine wpC.ret ?_
  obtain rfl := Option.some.inj h0
  refine Exists.intro _ (And.intro (rs_tmp hS rfl rs_nil) ?_)
  have hI := hS.inv
  exact ⟨rfl, (hI.sub sn)⟩
 ·replace h0 := iteF hc h0
  refine wpC.skip ?_
  refine c_reg fun R hR => ?_
  refine pp1 hS rfl rfl ?_; clear hS
  intro tm hS
  refine o_ldA (k := 0) hS (.inl rfl) rfl rfl rfl (.inl rfl) Fu25 rfl Fs25 rfl ?_; clear hS
  intro tm hS
  refine pp1 hS rfl rfl ?_; clear hS
  intro tm hS
  obtain ⟨⟨r2, r3⟩, hx2, h0⟩ := bindS h0
  refine o_call hS (.inl rfl) rfl (fun wm' hw1 hw2 => wk25 ho100 fn1 v1 axis1  v2 v3 (((hS.sel hw2).ad 2 rfl).ad 1 rfl) hx2) (fun wm' res H hw' hp => ?_)
  obtain ⟨v4, v5, hres, hI⟩ := hp
  replace hres := hres.symm; subst hres
  replace hS : S wm 166 _ H ((30, .tuple #[.agg #[.bool r2.Char, v4, v5], .int .i64 r3]) :: _) ([.own (rI .i64) v4 r2.Shape, .own (rI .i64) v5 r2.Data] ++ _) Fr := hS.after rfl hw' hI
  clear hI hw'
  refine pp3 hS rfl rfl rfl rfl rfl rfl ?_; clear hS
  intro tm hS
  refine o_alloc hS (.inl rfl) rfl Fz25 (by decide) ?_; clear hS
  intro b2 tm H hS
  refine o_st (k := 0) hS (.inl rfl) rfl rfl rfl Fs25 rfl rfl (all_cons rfl (all_cons (hS.one (k := 1) rfl (.inr (.inl rfl))) (all_cons (hS.one (k := 2) rfl (.inr (.inl rfl))) all_nil))) rfl ?_; clear hS; try clear H
  intro H hS
  refine pp1 hS rfl rfl ?_; clear hS
  intro tm hS
  refine o_nil (hR _ _ ?_)
  clear hR R
  refine c_seqS ?_
  refine cr2 hS rfl rfl rfl rfl ?_; clear hS
  intro tm hS
  refine c_cond hS rfl (fun hc => ?_) (fun hc => ?_)
  ·replace h0 := iteT hc h0
   refine c_reg fun R hR => ?_
   refine o_ldA (k := 0) hS (.inl rfl) rfl rfl rfl (.inl rfl) Fu25 rfl Fs25 rfl ?_; clear hS
   intro tm hS
   refine pp2 hS rfl rfl rfl rfl ?_; clear hS
   intro tm hS
   obtain ⟨r4, hx3, h0⟩ := bindS h0
   refine o_call (Pc := fun _ res H => res = .bool r4 ∧ Kn wm H ([.box b2 [.bool r2.Char, v4, v5], .own (rI .i64) v4 r2.Shape, .own (rI .i64) v5 r2.Data, .box b1 [.bool v1.Char, v2, v3], .fz (rI .i64) v2 v1.Shape, .fz (rI .i64) v3 v1.Data]) Fr) hS (.inl rfl) rfl (fun wm' hw1 hw2 => by
    obtain ⟨F2, kk_1, kk_2⟩ := hS.inv.lend (La := [.fz (rI .i64) v4 r2.Shape, .fz (rI .i64) v5 r2.Data]) (List.forall_mem_cons.mpr ⟨(.inr ⟨_, _, _, _, rfl, .inl (List.mem_of_getElem? (i := 1) rfl)⟩), (List.forall_mem_cons.mpr ⟨(.inr ⟨_, _, _, _, rfl, .inl (List.mem_of_getElem? (i := 2) rfl)⟩), (fun _ h => by cases h)⟩)⟩) hw1 hw2
    exact (wk22  r2 r3 r3  v4 v5 kk_1 hx3).mono fun res H2 ⟨qq_1, qq_2⟩ => ⟨qq_1, kk_2 _ qq_2⟩) (fun wm' res H hw' hp => ?_)
   obtain ⟨hres, hI⟩ := hp
   replace hres := hres.symm; subst hres
   replace hS : S wm 166 _ H ((38, .bool r4) :: _) ([.box b2 [.bool r2.Char, v4, v5], .own (rI .i64) v4 r2.Shape, .own (rI .i64) v5 r2.Data, .box b1 [.bool v1.Char, v2, v3], .fz (rI .i64) v2 v1.Shape, .fz (rI .i64) v3 v1.Data]) Fr := (hS.put rfl _).withK hI
   clear hI hw'
   refine pp1 hS rfl rfl ?_; clear hS
   intro tm hS
   obtain ⟨c1, hc1⟩ : ∃ x : Bool, x = (r4 && true) := ⟨_, rfl⟩
   refine o_cutN 2 (J := fun tm H => S wm 166 tm H [(41, .bool c1)] [] Fr) ?_ ?_
   ·rcases Bool.eq_false_or_eq_true r4 with hg1 | hg1
    ·refine o_call hS (.inr ⟨_, _, _, _, rfl, rfl, rfl, hg1⟩) rfl (fun wm' hw1 hw2 => wpF.told ho9 (Q := fun v H' => v = .bool true ∧ H' = H) ⟨rfl, rfl⟩) (fun wm' res H hw' hp => ?_)
     obtain ⟨rfl, rfl⟩ := hp
     replace hS := hS.put (d := 40) rfl (.bool true)
     clear hw'
     refine o_pickT hS (.inl rfl) rfl rfl hg1 rfl ?_; clear hS
     intro tm hS
     have hc1 : c1 = true := hc1.trans (by rw [hg1]; first | rfl | simp)
     subst hc1
     exact o_nil (hS.keep (ka_cons rfl ka_nil) (fun hI => (hI.sub sn)))
    ·refine o_skip hS rfl rfl rfl hg1 ?_; clear hS
     intro tm hS
     refine o_pickF hS (.inl rfl) rfl rfl hg1 rfl ?_; clear hS
     intro tm hS
     have hc1 : c1 = false := hc1.trans (by rw [hg1]; first | rfl | simp)
     subst hc1
     exact o_nil (hS.keep (ka_cons rfl ka_nil) (fun hI => (hI.sub sn)))
   intro tm H hS
   subst hc1
   refine pp1 hS rfl rfl ?_; clear hS
   intro tm hS
   refine o_nil (hR _ _ ?_)
   clear hR R
   refine wpC.ret ?_
   obtain rfl := Option.some.inj h0
   refine Exists.intro _ (And.intro (rs_tmp hS rfl rs_nil) ?_)
   have hI := hS.inv
   exact ⟨rfl, (hI.sub sn)⟩
  ·replace h0 := iteF hc h0
   refine wpC.skip ?_
   refine c_seqS ?_
   refine c_reg fun R hR => ?_
   refine pp1 hS rfl rfl ?_; clear hS
   intro tm hS
   refine o_ld1 (k := 3) hS (.inl rfl) rfl rfl rfl (.inl rfl) Fu22 rfl rfl ?_; clear hS
   intro tm hS
   refine o_len (k := 4) (r := (rI .i64)) hS (.inl rfl) rfl rfl rfl (.inl rfl) Fu22 rfl ?_; clear hS
   intro tm hS
   refine pp1 hS rfl rfl ?_; clear hS
   intro tm hS
   refine o_nil (hR _ _ ?_)
   clear hR R
   refine c_cond hS rfl (fun hc => ?_) (fun hc => ?_)
   ·replace h0 := iteT hc h0
    refine c_reg fun R hR => ?_
    refine o_ldA (k := 0) hS (.inl rfl) rfl rfl rfl (.inl rfl) Fu25 rfl Fs25 rfl ?_; clear hS
    intro tm hS
    refine o_ldA (k := 3) hS (.inl rfl) rfl rfl rfl (.inl rfl) Fu25 rfl Fs25 rfl ?_; clear hS
    intro tm hS
    obtain ⟨r5, hx4, h0⟩ := bindS h0
    refine o_call (Pc := fun _ res H => res = .bool r5 ∧ Kn wm H ([.box b2 [.bool r2.Char, v4, v5], .own (rI .i64) v4 r2.Shape, .own (rI .i64) v5 r2.Data, .box b1 [.bool v1.Char, v2, v3], .fz (rI .i64) v2 v1.Shape, .fz (rI .i64) v3 v1.Data]) Fr) hS (.inl rfl) rfl (fun wm' hw1 hw2 => by
     obtain ⟨F2, kk_1, kk_2⟩ := hS.inv.lend (La := [.fz (rI .i64) v4 r2.Shape, .fz (rI .i64) v5 r2.Data, .fz (rI .i64) v2 v1.Shape, .fz (rI .i64) v3 v1.Data]) (List.forall_mem_cons.mpr ⟨(.inr ⟨_, _, _, _, rfl, .inl (List.mem_of_getElem? (i := 1) rfl)⟩), (List.forall_mem_cons.mpr ⟨(.inr ⟨_, _, _, _, rfl, .inl (List.mem_of_getElem? (i := 2) rfl)⟩), (List.forall_mem_cons.mpr ⟨(.inl ⟨rfl, List.mem_of_getElem? (i := 4) rfl⟩), (List.forall_mem_cons.mpr ⟨(.inl ⟨rfl, List.mem_of_getElem? (i := 5) rfl⟩), (fun _ h => by cases h)⟩)⟩)⟩)⟩) hw1 hw2
     exact (wk21  r2 v1  v4 v5 v2 v3 kk_1 hx4).mono fun res H2 ⟨qq_1, qq_2⟩ => ⟨qq_1, kk_2 _ qq_2⟩) (fun wm' res H hw' hp => ?_)
    obtain ⟨hres, hI⟩ := hp
    replace hres := hres.symm; subst hres
    replace hS : S wm 166 _ H ((48, .bool r5) :: _) ([.box b2 [.bool r2.Char, v4, v5], .own (rI .i64) v4 r2.Shape, .own (rI .i64) v5 r2.Data, .box b1 [.bool v1.Char, v2, v3], .fz (rI .i64) v2 v1.Shape, .fz (rI .i64) v3 v1.Data]) Fr := (hS.put rfl _).withK hI
    clear hI hw'
    refine pp1 hS rfl rfl ?_; clear hS
    intro tm hS
    obtain ⟨c2, hc2⟩ : ∃ x : Bool, x = (r5 && true) := ⟨_, rfl⟩
    refine o_cutN 2 (J := fun tm H => S wm 166 tm H [(51, .bool c2)] [] Fr) ?_ ?_
    ·rcases Bool.eq_false_or_eq_true r5 with hg2 | hg2
     ·refine o_call hS (.inr ⟨_, _, _, _, rfl, rfl, rfl, hg2⟩) rfl (fun wm' hw1 hw2 => wpF.told ho9 (Q := fun v H' => v = .bool true ∧ H' = H) ⟨rfl, rfl⟩) (fun wm' res H hw' hp => ?_)
      obtain ⟨rfl, rfl⟩ := hp
      replace hS := hS.put (d := 50) rfl (.bool true)
      clear hw'
      refine o_pickT hS (.inl rfl) rfl rfl hg2 rfl ?_; clear hS
      intro tm hS
      have hc2 : c2 = true := hc2.trans (by rw [hg2]; first | rfl | simp)
      subst hc2
      exact o_nil (hS.keep (ka_cons rfl ka_nil) (fun hI => (hI.sub sn)))
     ·refine o_skip hS rfl rfl rfl hg2 ?_; clear hS
      intro tm hS
      refine o_pickF hS (.inl rfl) rfl rfl hg2 rfl ?_; clear hS
      intro tm hS
      have hc2 : c2 = false := hc2.trans (by rw [hg2]; first | rfl | simp)
      subst hc2
      exact o_nil (hS.keep (ka_cons rfl ka_nil) (fun hI => (hI.sub sn)))
    intro tm H hS
    subst hc2
    refine pp1 hS rfl rfl ?_; clear hS
    intro tm hS
    refine o_nil (hR _ _ ?_)
    clear hR R
    refine wpC.ret ?_
    obtain rfl := Option.some.inj h0
    refine Exists.intro _ (And.intro (rs_tmp hS rfl rs_nil) ?_)
    have hI := hS.inv
    exact ⟨rfl, (hI.sub sn)⟩
   ·replace h0 := iteF hc h0
    refine wpC.skip ?_
    refine cr2 hS rfl rfl rfl rfl ?_; clear hS
    intro tm hS
    obtain ⟨k1, h1, h0⟩ := bindS h0
    refine c_seqJ (J := fun tm H => (match (generalizing := false) k1 with | k1 => S wm 166 tm H [(0, .string fn1), (2, .int .i64 axis1), (4, .pointer (some ⟨b1, 0, none⟩)), (7, .pointer (some ⟨b2, 0, none⟩)), (9, .int .i64 k1)] [.box b1 [.bool v1.Char, v2, v3], .box b2 [.bool r2.Char, v4, v5], .fz (rI .i64) v2 v1.Shape, .fz (rI .i64) v3 v1.Data, .own (rI .i64) v4 r2.Shape, .own (rI .i64) v5 r2.Data] Fr)) ?_ ?_
    ·refine cr2 hS rfl rfl rfl rfl ?_; clear hS
     intro tm hS
     refine c_cond hS rfl (fun hc => ?_) (fun hc => ?_)
     ·replace h1 := iteT hc h1
      refine c_reg1 fun R hR => ?_
      refine pp1 hS rfl rfl ?_; clear hS
      intro tm hS
      refine o_ld1 (k := 3) hS (.inl rfl) rfl rfl rfl (.inl rfl) Fu22 rfl rfl ?_; clear hS
      intro tm hS
      refine o_len (k := 4) (r := (rI .i64)) hS (.inl rfl) rfl rfl rfl (.inl rfl) Fu22 rfl ?_; clear hS
      intro tm hS
      refine pp2 hS rfl rfl rfl rfl ?_; clear hS
      intro tm hS
      refine o_nil (hR _ _ ?_)
      clear hR R
      obtain rfl := Option.some.inj h1
      change S wm 166 _ _ _ _ Fr; exact hS.keep (k5 rfl rfl rfl rfl rfl) (fun hI => (((((((hI.pull 2 rfl).pull 2 rfl).pull 5 rfl).pull 5 rfl).pull 4 rfl).pull 5 rfl).take 6))
     ·replace h1 := iteF hc h1
      refine wpC.skip ?_
      obtain rfl := Option.some.inj h1
      change S wm 166 _ _ _ _ Fr; exact hS.keep (k5 rfl rfl rfl rfl rfl) (fun hI => (((((((hI.pull 2 rfl).pull 2 rfl).pull 5 rfl).pull 5 rfl).pull 4 rfl).pull 5 rfl).take 6))
    intro tm H hS
    change S wm 166 tm H [(0, .string fn1), (2, .int .i64 axis1), (4, .pointer (some ⟨b1, 0, none⟩)), (7, .pointer (some ⟨b2, 0, none⟩)), (9, .int .i64 k1)] [.box b1 [.bool v1.Char, v2, v3], .box b2 [.bool r2.Char, v4, v5], .fz (rI .i64) v2 v1.Shape, .fz (rI .i64) v3 v1.Data, .own (rI .i64) v4 r2.Shape, .own (rI .i64) v5 r2.Data] Fr at hS
    refine c_reg fun R hR => ?_
    refine pp1 hS rfl rfl ?_; clear hS
    intro tm hS
    refine o_ld1 (k := 0) hS (.inl rfl) rfl rfl rfl (.inl rfl) Fu22 rfl rfl ?_; clear hS
    intro tm hS
    refine pp1 hS rfl rfl ?_; clear hS
    intro tm hS
    obtain ⟨y1, hx5, h0⟩ := bindS h0
    refine o_ixA (k := 2) (r := (rI .i64)) hS (.inl rfl) rfl rfl rfl rfl (.inl rfl) Fu22 Fs3 hx5 ?_; clear hS
    intro tm hS
    refine o_ldF (r := (rI .i64)) (k := 2) hS (.inl rfl) rfl rfl rfl (.inl rfl) hx5 Fu3 rfl (flat_I _) rfl ?_; clear hS
    intro tm hS
    refine pp1 hS rfl rfl ?_; clear hS
    intro tm hS
    refine o_nil (hR _ _ ?_)
    clear hR R
    refine c_seqS ?_
    refine cr2 hS rfl rfl rfl rfl ?_; clear hS
    intro tm hS
    refine c_cond hS rfl (fun hc => ?_) (fun hc => ?_)
    ·replace h0 := iteT hc h0
     refine c_reg fun R hR => ?_
     refine o_ldA (k := 1) hS (.inl rfl) rfl rfl rfl (.inl rfl) Fu25 rfl Fs25 rfl ?_; clear hS
     intro tm hS
     refine o_ldA (k := 0) hS (.inl rfl) rfl rfl rfl (.inl rfl) Fu25 rfl Fs25 rfl ?_; clear hS
     intro tm hS
     obtain ⟨r6, hx6, h0⟩ := bindS h0
     refine o_call (Pc := fun _ res H => res = .bool r6 ∧ Kn wm H ([.box b1 [.bool v1.Char, v2, v3], .box b2 [.bool r2.Char, v4, v5], .fz (rI .i64) v2 v1.Shape, .fz (rI .i64) v3 v1.Data, .own (rI .i64) v4 r2.Shape, .own (rI .i64) v5 r2.Data]) Fr) hS (.inl rfl) rfl (fun wm' hw1 hw2 => by
      obtain ⟨F2, kk_1, kk_2⟩ := hS.inv.lend (La := [.fz (rI .i64) v4 r2.Shape, .fz (rI .i64) v5 r2.Data, .fz (rI .i64) v2 v1.Shape, .fz (rI .i64) v3 v1.Data]) (List.forall_mem_cons.mpr ⟨(.inr ⟨_, _, _, _, rfl, .inl (List.mem_of_getElem? (i := 4) rfl)⟩), (List.forall_mem_cons.mpr ⟨(.inr ⟨_, _, _, _, rfl, .inl (List.mem_of_getElem? (i := 5) rfl)⟩), (List.forall_mem_cons.mpr ⟨(.inl ⟨rfl, List.mem_of_getElem? (i := 2) rfl⟩), (List.forall_mem_cons.mpr ⟨(.inl ⟨rfl, List.mem_of_getElem? (i := 3) rfl⟩), (fun _ h => by cases h)⟩)⟩)⟩)⟩) hw1 hw2
      exact (wk21  r2 v1  v4 v5 v2 v3 kk_1 hx6).mono fun res H2 ⟨qq_1, qq_2⟩ => ⟨qq_1, kk_2 _ qq_2⟩) (fun wm' res H hw' hp => ?_)
     obtain ⟨hres, hI⟩ := hp
     replace hres := hres.symm; subst hres
     replace hS : S wm 166 _ H ((68, .bool r6) :: _) ([.box b1 [.bool v1.Char, v2, v3], .box b2 [.bool r2.Char, v4, v5], .fz (rI .i64) v2 v1.Shape, .fz (rI .i64) v3 v1.Data, .own (rI .i64) v4 r2.Shape, .own (rI .i64) v5 r2.Data]) Fr := (hS.put rfl _).withK hI
     clear hI hw'
     refine pp1 hS rfl rfl ?_; clear hS
     intro tm hS
     obtain ⟨c3, hc3⟩ : ∃ x : Bool, x = (r6 && true) := ⟨_, rfl⟩
     refine o_cutN 2 (J := fun tm H => S wm 166 tm H [(71, .bool c3)] [] Fr) ?_ ?_
     ·rcases Bool.eq_false_or_eq_true r6 with hg3 | hg3
      ·refine o_call hS (.inr ⟨_, _, _, _, rfl, rfl, rfl, hg3⟩) rfl (fun wm' hw1 hw2 => wpF.told ho9 (Q := fun v H' => v = .bool true ∧ H' = H) ⟨rfl, rfl⟩) (fun wm' res H hw' hp => ?_)
       obtain ⟨rfl, rfl⟩ := hp
       replace hS := hS.put (d := 70) rfl (.bool true)
       clear hw'
       refine o_pickT hS (.inl rfl) rfl rfl hg3 rfl ?_; clear hS
       intro tm hS
       have hc3 : c3 = true := hc3.trans (by rw [hg3]; first | rfl | simp)
       subst hc3
       exact o_nil (hS.keep (ka_cons rfl ka_nil) (fun hI => (hI.sub sn)))
      ·refine o_skip hS rfl rfl rfl hg3 ?_; clear hS
       intro tm hS
       refine o_pickF hS (.inl rfl) rfl rfl hg3 rfl ?_; clear hS
       intro tm hS
       have hc3 : c3 = false := hc3.trans (by rw [hg3]; first | rfl | simp)
       subst hc3
       exact o_nil (hS.keep (ka_cons rfl ka_nil) (fun hI => (hI.sub sn)))
     intro tm H hS
     subst hc3
     refine pp1 hS rfl rfl ?_; clear hS
     intro tm hS
     refine o_nil (hR _ _ ?_)
     clear hR R
     refine wpC.ret ?_
     obtain rfl := Option.some.inj h0
     refine Exists.intro _ (And.intro (rs_tmp hS rfl rs_nil) ?_)
     have hI := hS.inv
     exact ⟨rfl, (hI.sub sn)⟩
    ·replace h0 := iteF hc h0
     refine wpC.skip ?_
     refine c_reg fun R hR => ?_
     refine pp1 hS rfl rfl ?_; clear hS
     intro tm hS
     refine o_ldA (k := 0) hS (.inl rfl) rfl rfl rfl (.inl rfl) Fu25 rfl Fs25 rfl ?_; clear hS
     intro tm hS
     refine pp1 hS rfl rfl ?_; clear hS
     intro tm hS
     obtain ⟨⟨r7, r8⟩, hx7, h0⟩ := bindS h0
     refine o_call hS (.inl rfl) rfl (fun wm' hw1 hw2 => wk11 ho100 fn1 v1 axis1  v2 v3 (((hS.sel hw2).ad 3 rfl).ad 2 rfl) hx7) (fun wm' res H hw' hp => ?_)
     obtain ⟨v6, v7, hres, hI⟩ := hp
     replace hres := hres.symm; subst hres
     replace hS : S wm 166 _ H ((76, .tuple #[.agg #[.bool r7.Char, v6, v7], .int .i64 r8]) :: _) ([.own (rI .i64) v6 r7.Shape, .own (rI .i64) v7 r7.Data] ++ _) Fr := hS.after rfl hw' hI
     clear hI hw'
     refine pp3 hS rfl rfl rfl rfl rfl rfl ?_; clear hS
     intro tm hS
     refine o_alloc hS (.inl rfl) rfl Fz25 (by decide) ?_; clear hS
     intro b3 tm H hS
     refine o_st (k := 0) hS (.inl rfl) rfl rfl rfl Fs25 rfl rfl (all_cons rfl (all_cons (hS.one (k := 1) rfl (.inr (.inl rfl))) (all_cons (hS.one (k := 2) rfl (.inr (.inl rfl))) all_nil))) rfl ?_; clear hS; try clear H
     intro H hS
     refine pp1 hS rfl rfl ?_; clear hS
     intro tm hS
     refine o_nil (hR _ _ ?_)
     clear hR R
     refine cr2 hS rfl rfl rfl rfl ?_; clear hS
     intro tm hS
     refine c_seqS ?_
     refine cr1 hS rfl rfl ?_; clear hS
     intro tm hS
     obtain ⟨k2, hw1, h0⟩ := bindS h0
     refine wpC.block ?_
     replace hS := hS.nilOwn rPlace
     replace hS := hS.nilOwn rPlace
     refine c_loop (I := fun (s : (List Am.Place) × (List Am.Place) × Int) tm H => match (generalizing := false) s with | (last1, first1, i1) => ∃ v8 v9, S wm 166 tm H [(4, .pointer (some ⟨b1, 0, none⟩)), (7, .pointer (some ⟨b2, 0, none⟩)), (9, .int .i64 k1), (10, .int .i64 y1), (11, .pointer (some ⟨b3, 0, none⟩)), (12, .int .i64 r8), (13, v8), (14, v9), (15, .int .i64 i1)] [.box b1 [.bool v1.Char, v2, v3], .box b2 [.bool r2.Char, v4, v5], .box b3 [.bool r7.Char, v6, v7], .own rPlace v8 last1, .own rPlace v9 first1, .fz (rI .i64) v2 v1.Shape, .fz (rI .i64) v3 v1.Data, .own (rI .i64) v4 r2.Shape, .own (rI .i64) v5 r2.Data, .own (rI .i64) v6 r7.Shape, .own (rI .i64) v7 r7.Data] Fr) hw1 (by refine Exists.intro (.slice none 0 0) ?_; refine Exists.intro (.slice none 0 0) ?_; change S wm 166 _ _ _ _ Fr; exact hS.keep (k9 rfl rfl rfl rfl rfl rfl rfl rfl rfl) (fun hI => (hI.pick [5, 6, 2, 0, 1, 7, 8, 9, 10, 3, 4] rfl))) ?_
     clear hS
     intro s1 tm H c4 hS h2 hq2
     obtain ⟨last1, first1, i1⟩ := s1
     obtain ⟨v8, v9, hS⟩ := hS
     change S wm 166 tm H [(4, .pointer (some ⟨b1, 0, none⟩)), (7, .pointer (some ⟨b2, 0, none⟩)), (9, .int .i64 k1), (10, .int .i64 y1), (11, .pointer (some ⟨b3, 0, none⟩)), (12, .int .i64 r8), (13, v8), (14, v9), (15, .int .i64 i1)] [.box b1 [.bool v1.Char, v2, v3], .box b2 [.bool r2.Char, v4, v5], .box b3 [.bool r7.Char, v6, v7], .own rPlace v8 last1, .own rPlace v9 first1, .fz (rI .i64) v2 v1.Shape, .fz (rI .i64) v3 v1.Data, .own (rI .i64) v4 r2.Shape, .own (rI .i64) v5 r2.Data, .own (rI .i64) v6 r7.Shape, .own (rI .i64) v7 r7.Data] Fr at hS
     refine c_seqS ?_
     refine c_reg fun R hR => ?_
     refine pp2 hS rfl rfl rfl rfl ?_; clear hS
     intro tm hS
     refine o_ld1 (k := 0) hS (.inl rfl) rfl rfl rfl (.inl rfl) Fu22 rfl rfl ?_; clear hS
     intro tm hS
     refine o_len (k := 5) (r := (rI .i64)) hS (.inl rfl) rfl rfl rfl (.inl rfl) Fu22 rfl ?_; clear hS
     intro tm hS
     refine pp1 hS rfl rfl ?_; clear hS
     intro tm hS
     refine o_nil (hR _ _ ?_)
     clear hR R
     refine c_cond hS rfl (fun hc => ?_) (fun hc => ?_)
     ·replace h2 := iteT hc h2
      refine wpC.skip ?_
      refine c_seqS ?_
      refine wpC.block ?_
      refine cr3 hS rfl rfl rfl rfl rfl rfl ?_; clear hS
      intro tm hS
      refine c_cond hS rfl (fun hc => ?_) (fun hc => ?_)
      ·replace h2 := iteT hc h2
       refine c_reg fun R hR => ?_
       refine pp2 hS rfl rfl rfl rfl ?_; clear hS
       intro tm hS
       obtain ⟨r9, hx8, h2⟩ := bindS h2
       refine o_call hS (.inl rfl) rfl (fun wm' hw1 hw2 => wk20  y1   (hS.sel hw2) hx8) (fun wm' res H hw' hp => ?_)
       obtain ⟨v10, v11, hres, hI⟩ := hp
       replace hres := hres.symm; subst hres
       replace hS : S wm 166 _ H ((91, .agg #[.bool r9.Char, v10, v11]) :: _) ([.own (rI .i64) v10 r9.Shape, .own (rI .i64) v11 r9.Data] ++ _) Fr := hS.after rfl hw' hI
       clear hI hw'
       refine o_build hS (.inl rfl) rfl Fb53 rfl (.cons rfl .nil) rfl ?_; clear hS
       intro tm hS
       replace hS := hS.frz (k := 0) rfl
       replace hS := hS.frz (k := 1) rfl
       refine o_lit (r := rPlace) (l := [(Am.Place.mk false r9)]) hS (.inl rfl) rfl Fl51 rfl rfl rfl (.cons rfl .nil) rfl rfl (ri_4 (rd_Place (z := (Am.Place.mk false r9)) ⟨0, rfl⟩ ⟨1, rfl⟩) ri_nil) rfl ?_; clear hS
       intro v12 tm H hS
       obtain ⟨l1, hx9, h2⟩ := bindS h2
       refine o_app (k1 := 6) (k2 := 0) (r := rPlace) hS (.inl rfl) rfl rfl rfl rfl rfl (.inr (.inr rfl)) rfl Fe51_51 rfl hx9 ?_; clear hS
       intro v13 tm H hS
       refine pp1 hS rfl rfl ?_; clear hS
       intro tm hS
       refine o_nil (hR _ _ ?_)
       clear hR R
       refine c_reg1 fun R hR => ?_
       refine pp1 hS rfl rfl ?_; clear hS
       intro tm hS
       obtain ⟨r10, hx10, h2⟩ := bindS h2
       refine o_call hS (.inl rfl) rfl (fun wm' hw1 hw2 => wk20  1   (hS.sel hw2) hx10) (fun wm' res H hw' hp => ?_)
       obtain ⟨v14, v15, hres, hI⟩ := hp
       replace hres := hres.symm; subst hres
       replace hS : S wm 166 _ H ((96, .agg #[.bool r10.Char, v14, v15]) :: _) ([.own (rI .i64) v14 r10.Shape, .own (rI .i64) v15 r10.Data] ++ _) Fr := hS.after rfl hw' hI
       clear hI hw'
       refine o_build hS (.inl rfl) rfl Fb53 rfl (.cons rfl .nil) rfl ?_; clear hS
       intro tm hS
       replace hS := hS.frz (k := 0) rfl
       replace hS := hS.frz (k := 1) rfl
       refine o_lit (r := rPlace) (l := [(Am.Place.mk false r10)]) hS (.inl rfl) rfl Fl51 rfl rfl rfl (.cons rfl .nil) rfl rfl (ri_4 (rd_Place (z := (Am.Place.mk false r10)) ⟨0, rfl⟩ ⟨1, rfl⟩) ri_nil) rfl ?_; clear hS
       intro v16 tm H hS
       obtain ⟨l2, hx11, h2⟩ := bindS h2
       refine o_app (k1 := 10) (k2 := 0) (r := rPlace) hS (.inl rfl) rfl rfl rfl rfl rfl (.inr (.inr rfl)) rfl Fe51_51 rfl hx11 ?_; clear hS
       intro v17 tm H hS
       refine pp1 hS rfl rfl ?_; clear hS
       intro tm hS
       refine o_nil (hR _ _ ?_)
       clear hR R
       refine cs3 hS rfl rfl rfl rfl rfl rfl ?_; clear hS
       intro tm hS
       obtain rfl := Option.some.inj h2
       refine ⟨_, rfl, ?_⟩
       refine Exists.intro v13 ?_; refine Exists.intro v17 ?_; change S wm 166 _ _ _ _ Fr; exact hS.keep (k9 rfl rfl rfl rfl rfl rfl rfl rfl rfl) (fun hI => (hI.sub (sd (sd (sd (sd (sd (sd (sc (sc (sc (sc (sc (sc (sc (sc (sc (sc (sc sn)))))))))))))))))))
      ·replace h2 := iteF hc h2
       refine c_reg fun R hR => ?_
       refine pp1 hS rfl rfl ?_; clear hS
       intro tm hS
       refine o_build hS (.inl rfl) rfl Fb53 rfl (.cons rfl .nil) rfl ?_; clear hS
       intro tm hS
       replace hS := hS.nilFz (rI .i64)
       refine o_lit (r := rPlace) (l := [(Am.Place.mk true (Val.mk false ([]) ([])))]) hS (.inl rfl) rfl Fl51 rfl rfl rfl (.cons rfl .nil) rfl rfl (ri_4 (rd_Place (z := (Am.Place.mk true (Val.mk false ([]) ([])))) ⟨0, rfl⟩ ⟨0, rfl⟩) ri_nil) rfl ?_; clear hS
       intro v18 tm H hS
       obtain ⟨l3, hx12, h2⟩ := bindS h2
       refine o_app (k1 := 5) (k2 := 0) (r := rPlace) hS (.inl rfl) rfl rfl rfl rfl rfl (.inr (.inr rfl)) rfl Fe51_51 rfl hx12 ?_; clear hS
       intro v19 tm H hS
       refine pp1 hS rfl rfl ?_; clear hS
       intro tm hS
       refine o_nil (hR _ _ ?_)
       clear hR R
       refine c_reg1 fun R hR => ?_
       refine pp1 hS rfl rfl ?_; clear hS
       intro tm hS
       refine o_build hS (.inl rfl) rfl Fb53 rfl (.cons rfl .nil) rfl ?_; clear hS
       intro tm hS
       refine o_lit (r := rPlace) (l := [(Am.Place.mk true (Val.mk false ([]) ([])))]) hS (.inl rfl) rfl Fl51 rfl rfl rfl (.cons rfl .nil) rfl rfl (ri_4 (rd_Place (z := (Am.Place.mk true (Val.mk false ([]) ([])))) ⟨1, rfl⟩ ⟨1, rfl⟩) ri_nil) rfl ?_; clear hS
       intro v20 tm H hS
       obtain ⟨l4, hx13, h2⟩ := bindS h2
       refine o_app (k1 := 7) (k2 := 0) (r := rPlace) hS (.inl rfl) rfl rfl rfl rfl rfl (.inr (.inr rfl)) rfl Fe51_51 rfl hx13 ?_; clear hS
       intro v21 tm H hS
       refine pp1 hS rfl rfl ?_; clear hS
       intro tm hS
       refine o_nil (hR _ _ ?_)
       clear hR R
       refine cs3 hS rfl rfl rfl rfl rfl rfl ?_; clear hS
       intro tm hS
       obtain rfl := Option.some.inj h2
       refine ⟨_, rfl, ?_⟩
       refine Exists.intro v19 ?_; refine Exists.intro v21 ?_; change S wm 166 _ _ _ _ Fr; exact hS.keep (k9 rfl rfl rfl rfl rfl rfl rfl rfl rfl) (fun hI => (hI.sub (sd (sd (sd (sc (sc (sc (sc (sc (sc (sc (sc (sc (sc (sc sn))))))))))))))))
     ·replace h2 := iteF hc h2
      refine wpC.exit ?_
      refine seqX ?_
      obtain rfl := Option.some.inj h2
      obtain rfl := hq2 _ rfl
      refine And.intro rfl (blk_eq ?_)
      replace h0 := joinN h0
      refine c_reg fun R hR => ?_
      refine o_ldA (k := 1) hS (.inl rfl) rfl rfl rfl (.inl rfl) Fu25 rfl Fs25 rfl ?_; clear hS
      intro tm hS
      refine pp1 hS rfl rfl ?_; clear hS
      intro tm hS
      obtain ⟨⟨r11, r12⟩, hx14, h0⟩ := bindS h0
      refine o_call (Pc := fun _ res H => ∃ v22 v23, res = .tuple #[.agg #[.bool r11.Char, v22, v23], .int .i64 r12] ∧ Kn wm H ([.own (rI .i64) v22 r11.Shape, .own (rI .i64) v23 r11.Data] ++ [.box b1 [.bool v1.Char, v2, v3], .box b2 [.bool r2.Char, v4, v5], .box b3 [.bool r7.Char, v6, v7], .own rPlace v8 last1, .own rPlace v9 first1, .fz (rI .i64) v2 v1.Shape, .fz (rI .i64) v3 v1.Data, .own (rI .i64) v4 r2.Shape, .own (rI .i64) v5 r2.Data, .own (rI .i64) v6 r7.Shape, .own (rI .i64) v7 r7.Data]) Fr) hS (.inl rfl) rfl (fun wm' hw1 hw2 => by
       obtain ⟨F2, kk_1, kk_2⟩ := hS.inv.lendR (La := [.fz (rI .i64) v4 r2.Shape, .fz (rI .i64) v5 r2.Data, .fz rPlace v8 last1]) (List.forall_mem_cons.mpr ⟨(.inr ⟨_, _, _, _, rfl, .inl (List.mem_of_getElem? (i := 7) rfl)⟩), (List.forall_mem_cons.mpr ⟨(.inr ⟨_, _, _, _, rfl, .inl (List.mem_of_getElem? (i := 8) rfl)⟩), (List.forall_mem_cons.mpr ⟨(.inr ⟨_, _, _, _, rfl, .inl (List.mem_of_getElem? (i := 3) rfl)⟩), (fun _ h => by cases h)⟩)⟩)⟩) hw1 hw2
       exact (wk27  r2 last1  v4 v5 v8 kk_1 hx14).mono fun res H2 ⟨v22, v23, qq_1, qq_2⟩ => ⟨v22, v23, qq_1, kk_2 _ _ (List.forall_mem_cons.mpr ⟨⟨_, _, _, _, rfl, fun _ _ _ _ h => h⟩, (List.forall_mem_cons.mpr ⟨⟨_, _, _, _, rfl, fun _ _ _ _ h => h⟩, (fun _ h => by cases h)⟩)⟩) qq_2⟩) (fun wm' res H hw' hp => ?_)
      obtain ⟨v22, v23, hres, hI⟩ := hp
      replace hres := hres.symm; subst hres
      replace hS : S wm 166 _ H ((111, .tuple #[.agg #[.bool r11.Char, v22, v23], .int .i64 r12]) :: _) ([.own (rI .i64) v22 r11.Shape, .own (rI .i64) v23 r11.Data] ++ [.box b1 [.bool v1.Char, v2, v3], .box b2 [.bool r2.Char, v4, v5], .box b3 [.bool r7.Char, v6, v7], .own rPlace v8 last1, .own rPlace v9 first1, .fz (rI .i64) v2 v1.Shape, .fz (rI .i64) v3 v1.Data, .own (rI .i64) v4 r2.Shape, .own (rI .i64) v5 r2.Data, .own (rI .i64) v6 r7.Shape, .own (rI .i64) v7 r7.Data]) Fr := (hS.put rfl _).withK hI
      clear hI hw'
      refine pp3 hS rfl rfl rfl rfl rfl rfl ?_; clear hS
      intro tm hS
      refine o_alloc hS (.inl rfl) rfl Fz25 (by decide) ?_; clear hS
      intro b4 tm H hS
      refine o_st (k := 0) hS (.inl rfl) rfl rfl rfl Fs25 rfl rfl (all_cons rfl (all_cons (hS.one (k := 1) rfl (.inr (.inl rfl))) (all_cons (hS.one (k := 2) rfl (.inr (.inl rfl))) all_nil))) rfl ?_; clear hS; try clear H
      intro H hS
      refine pp1 hS rfl rfl ?_; clear hS
      intro tm hS
      refine o_nil (hR _ _ ?_)
      clear hR R
      refine c_reg fun R hR => ?_
      refine o_ldA (k := 4) hS (.inl rfl) rfl rfl rfl (.inl rfl) Fu25 rfl Fs25 rfl ?_; clear hS
      intro tm hS
      refine pp1 hS rfl rfl ?_; clear hS
      intro tm hS
      obtain ⟨⟨r13, r14⟩, hx15, h0⟩ := bindS h0
      refine o_call (Pc := fun _ res H => ∃ v24 v25, res = .tuple #[.agg #[.bool r13.Char, v24, v25], .int .i64 r14] ∧ Kn wm H ([.own (rI .i64) v24 r13.Shape, .own (rI .i64) v25 r13.Data] ++ [.box b4 [.bool r11.Char, v22, v23], .own (rI .i64) v22 r11.Shape, .own (rI .i64) v23 r11.Data, .box b1 [.bool v1.Char, v2, v3], .box b2 [.bool r2.Char, v4, v5], .box b3 [.bool r7.Char, v6, v7], .own rPlace v8 last1, .own rPlace v9 first1, .fz (rI .i64) v2 v1.Shape, .fz (rI .i64) v3 v1.Data, .own (rI .i64) v4 r2.Shape, .own (rI .i64) v5 r2.Data, .own (rI .i64) v6 r7.Shape, .own (rI .i64) v7 r7.Data]) Fr) hS (.inl rfl) rfl (fun wm' hw1 hw2 => by
       obtain ⟨F2, kk_1, kk_2⟩ := hS.inv.lendR (La := [.fz (rI .i64) v4 r2.Shape, .fz (rI .i64) v5 r2.Data, .fz rPlace v9 first1]) (List.forall_mem_cons.mpr ⟨(.inr ⟨_, _, _, _, rfl, .inl (List.mem_of_getElem? (i := 10) rfl)⟩), (List.forall_mem_cons.mpr ⟨(.inr ⟨_, _, _, _, rfl, .inl (List.mem_of_getElem? (i := 11) rfl)⟩), (List.forall_mem_cons.mpr ⟨(.inr ⟨_, _, _, _, rfl, .inl (List.mem_of_getElem? (i := 7) rfl)⟩), (fun _ h => by cases h)⟩)⟩)⟩) hw1 hw2
       exact (wk27  r2 first1  v4 v5 v9 kk_1 hx15).mono fun res H2 ⟨v24, v25, qq_1, qq_2⟩ => ⟨v24, v25, qq_1, kk_2 _ _ (List.forall_mem_cons.mpr ⟨⟨_, _, _, _, rfl, fun _ _ _ _ h => h⟩, (List.forall_mem_cons.mpr ⟨⟨_, _, _, _, rfl, fun _ _ _ _ h => h⟩, (fun _ h => by cases h)⟩)⟩) qq_2⟩) (fun wm' res H hw' hp => ?_)
      obtain ⟨v24, v25, hres, hI⟩ := hp
      replace hres := hres.symm; subst hres
      replace hS : S wm 166 _ H ((117, .tuple #[.agg #[.bool r13.Char, v24, v25], .int .i64 r14]) :: _) ([.own (rI .i64) v24 r13.Shape, .own (rI .i64) v25 r13.Data] ++ [.box b4 [.bool r11.Char, v22, v23], .own (rI .i64) v22 r11.Shape, .own (rI .i64) v23 r11.Data, .box b1 [.bool v1.Char, v2, v3], .box b2 [.bool r2.Char, v4, v5], .box b3 [.bool r7.Char, v6, v7], .own rPlace v8 last1, .own rPlace v9 first1, .fz (rI .i64) v2 v1.Shape, .fz (rI .i64) v3 v1.Data, .own (rI .i64) v4 r2.Shape, .own (rI .i64) v5 r2.Data, .own (rI .i64) v6 r7.Shape, .own (rI .i64) v7 r7.Data]) Fr := (hS.put rfl _).withK hI
      clear hI hw'
      refine pp3 hS rfl rfl rfl rfl rfl rfl ?_; clear hS
      intro tm hS
      refine o_alloc hS (.inl rfl) rfl Fz25 (by decide) ?_; clear hS
      intro b5 tm H hS
      refine o_st (k := 0) hS (.inl rfl) rfl rfl rfl Fs25 rfl rfl (all_cons rfl (all_cons (hS.one (k := 1) rfl (.inr (.inl rfl))) (all_cons (hS.one (k := 2) rfl (.inr (.inl rfl))) all_nil))) rfl ?_; clear hS; try clear H
      intro H hS
      refine pp1 hS rfl rfl ?_; clear hS
      intro tm hS
      refine o_nil (hR _ _ ?_)
      clear hR R
      refine c_reg fun R hR => ?_
      refine o_ldA (k := 6) hS (.inl rfl) rfl rfl rfl (.inl rfl) Fu25 rfl Fs25 rfl ?_; clear hS
      intro tm hS
      refine pp1 hS rfl rfl ?_; clear hS
      intro tm hS
      obtain ⟨⟨r15, r16⟩, hx16, h0⟩ := bindS h0
      refine o_call (Pc := fun _ res H => ∃ v26 v27, res = .tuple #[.agg #[.bool r15.Char, v26, v27], .int .i64 r16] ∧ Kn wm H ([.own (rI .i64) v26 r15.Shape, .own (rI .i64) v27 r15.Data] ++ [.box b5 [.bool r13.Char, v24, v25], .own (rI .i64) v24 r13.Shape, .own (rI .i64) v25 r13.Data, .box b4 [.bool r11.Char, v22, v23], .own (rI .i64) v22 r11.Shape, .own (rI .i64) v23 r11.Data, .box b1 [.bool v1.Char, v2, v3], .box b2 [.bool r2.Char, v4, v5], .box b3 [.bool r7.Char, v6, v7], .own rPlace v8 last1, .own rPlace v9 first1, .fz (rI .i64) v2 v1.Shape, .fz (rI .i64) v3 v1.Data, .own (rI .i64) v4 r2.Shape, .own (rI .i64) v5 r2.Data, .own (rI .i64) v6 r7.Shape, .own (rI .i64) v7 r7.Data]) Fr) hS (.inl rfl) rfl (fun wm' hw1 hw2 => by
       obtain ⟨F2, kk_1, kk_2⟩ := hS.inv.lendR (La := [.fz (rI .i64) v2 v1.Shape, .fz (rI .i64) v3 v1.Data, .fz rPlace v9 first1]) (List.forall_mem_cons.mpr ⟨(.inl ⟨rfl, List.mem_of_getElem? (i := 11) rfl⟩), (List.forall_mem_cons.mpr ⟨(.inl ⟨rfl, List.mem_of_getElem? (i := 12) rfl⟩), (List.forall_mem_cons.mpr ⟨(.inr ⟨_, _, _, _, rfl, .inl (List.mem_of_getElem? (i := 10) rfl)⟩), (fun _ h => by cases h)⟩)⟩)⟩) hw1 hw2
       exact (wk27  v1 first1  v2 v3 v9 kk_1 hx16).mono fun res H2 ⟨v26, v27, qq_1, qq_2⟩ => ⟨v26, v27, qq_1, kk_2 _ _ (List.forall_mem_cons.mpr ⟨⟨_, _, _, _, rfl, fun _ _ _ _ h => h⟩, (List.forall_mem_cons.mpr ⟨⟨_, _, _, _, rfl, fun _ _ _ _ h => h⟩, (fun _ h => by cases h)⟩)⟩) qq_2⟩) (fun wm' res H hw' hp => ?_)
      obtain ⟨v26, v27, hres, hI⟩ := hp
      replace hres := hres.symm; subst hres
      replace hS : S wm 166 _ H ((123, .tuple #[.agg #[.bool r15.Char, v26, v27], .int .i64 r16]) :: _) ([.own (rI .i64) v26 r15.Shape, .own (rI .i64) v27 r15.Data] ++ [.box b5 [.bool r13.Char, v24, v25], .own (rI .i64) v24 r13.Shape, .own (rI .i64) v25 r13.Data, .box b4 [.bool r11.Char, v22, v23], .own (rI .i64) v22 r11.Shape, .own (rI .i64) v23 r11.Data, .box b1 [.bool v1.Char, v2, v3], .box b2 [.bool r2.Char, v4, v5], .box b3 [.bool r7.Char, v6, v7], .own rPlace v8 last1, .own rPlace v9 first1, .fz (rI .i64) v2 v1.Shape, .fz (rI .i64) v3 v1.Data, .own (rI .i64) v4 r2.Shape, .own (rI .i64) v5 r2.Data, .own (rI .i64) v6 r7.Shape, .own (rI .i64) v7 r7.Data]) Fr := (hS.put rfl _).withK hI
      clear hI hw'
      refine pp3 hS rfl rfl rfl rfl rfl rfl ?_; clear hS
      intro tm hS
      refine o_alloc hS (.inl rfl) rfl Fz25 (by decide) ?_; clear hS
      intro b6 tm H hS
      refine o_st (k := 0) hS (.inl rfl) rfl rfl rfl Fs25 rfl rfl (all_cons rfl (all_cons (hS.one (k := 1) rfl (.inr (.inl rfl))) (all_cons (hS.one (k := 2) rfl (.inr (.inl rfl))) all_nil))) rfl ?_; clear hS; try clear H
      intro H hS
      refine pp1 hS rfl rfl ?_; clear hS
      intro tm hS
      refine o_nil (hR _ _ ?_)
      clear hR R
      refine c_seqS ?_
      refine c_reg fun R hR => ?_
      refine pp1 hS rfl rfl ?_; clear hS
      intro tm hS
      refine o_ld1 (k := 11) hS (.inl rfl) rfl rfl rfl (.inl rfl) Fu23 rfl rfl ?_; clear hS
      intro tm hS
      refine o_len (k := 19) (r := (rI .i64)) hS (.inl rfl) rfl rfl rfl (.inr (.inl rfl)) Fu23 rfl ?_; clear hS
      intro tm hS
      refine pp2 hS rfl rfl rfl rfl ?_; clear hS
      intro tm hS
      obtain ⟨c5, hc4⟩ : ∃ x : Bool, x = (((r7.Data.length : Int) == 0) && (r8 == 0)) := ⟨_, rfl⟩
      refine o_cutN 3 (J := fun tm H => S wm 166 tm H [(133, .bool c5), (11, .pointer (some ⟨b3, 0, none⟩)), (12, .int .i64 r8), (16, .pointer (some ⟨b4, 0, none⟩)), (17, .int .i64 r12), (18, .pointer (some ⟨b5, 0, none⟩)), (19, .int .i64 r14), (20, .pointer (some ⟨b6, 0, none⟩)), (21, .int .i64 r16)] [.box b6 [.bool r15.Char, v26, v27], .own (rI .i64) v26 r15.Shape, .own (rI .i64) v27 r15.Data, .box b5 [.bool r13.Char, v24, v25], .own (rI .i64) v24 r13.Shape, .own (rI .i64) v25 r13.Data, .box b4 [.bool r11.Char, v22, v23], .own (rI .i64) v22 r11.Shape, .own (rI .i64) v23 r11.Data, .box b3 [.bool r7.Char, v6, v7], .own (rI .i64) v6 r7.Shape, .own (rI .i64) v7 r7.Data] Fr) ?_ ?_
      ·rcases Bool.eq_false_or_eq_true ((r7.Data.length : Int) == 0) with hg4 | hg4
       ·refine o_pure hS (.inr ⟨_, _, _, _, rfl, rfl, rfl, hg4⟩) rfl rfl ?_; clear hS
        intro tm hS
        refine o_pure hS (.inr ⟨_, _, _, _, rfl, rfl, rfl, hg4⟩) rfl rfl ?_; clear hS
        intro tm hS
        refine o_pickT hS (.inl rfl) rfl rfl hg4 rfl ?_; clear hS
        intro tm hS
        have hc4 : c5 = (r8 == 0) := hc4.trans (by rw [hg4]; first | rfl | simp)
        subst hc4
        exact o_nil (hS.keep (k9 rfl rfl rfl rfl rfl rfl rfl rfl rfl) (fun hI => (hI.sub (sc (sc (sc (sc (sc (sc (sc (sc (sc (sd (sd (sc (sd (sd (sd (sd (sd (sd (sc (sc sn)))))))))))))))))))))))
       ·refine o_skip hS rfl rfl rfl hg4 ?_; clear hS
        intro tm hS
        refine o_skip hS rfl rfl rfl hg4 ?_; clear hS
        intro tm hS
        refine o_pickF hS (.inl rfl) rfl rfl hg4 rfl ?_; clear hS
        intro tm hS
        have hc4 : c5 = false := hc4.trans (by rw [hg4]; first | rfl | simp)
        subst hc4
        exact o_nil (hS.keep (k9 rfl rfl rfl rfl rfl rfl rfl rfl rfl) (fun hI => (hI.sub (sc (sc (sc (sc (sc (sc (sc (sc (sc (sd (sd (sc (sd (sd (sd (sd (sd (sd (sc (sc sn)))))))))))))))))))))))
      intro tm H hS
      subst hc4
      refine o_nil (hR _ _ ?_)
      clear hR R
      refine c_cond hS rfl (fun hc => ?_) (fun hc => ?_)
      ·replace h0 := iteT hc h0
       refine c_reg fun R hR => ?_
       refine pp3 hS rfl rfl rfl rfl rfl rfl ?_; clear hS
       intro tm hS
       obtain ⟨c6, hc5⟩ : ∃ x : Bool, x = ((r12 == 0) && ((r11.Data.length : Int) == 0)) := ⟨_, rfl⟩
       refine o_cutN 5 (J := fun tm H => S wm 166 tm H [(141, .bool c6)] [] Fr) ?_ ?_
       ·rcases Bool.eq_false_or_eq_true (r12 == 0) with hg5 | hg5
        ·refine o_pure hS (.inr ⟨_, _, _, _, rfl, rfl, rfl, hg5⟩) rfl rfl ?_; clear hS
         intro tm hS
         refine o_ld1 (k := 6) hS (.inr ⟨_, _, _, _, rfl, rfl, rfl, hg5⟩) rfl rfl rfl (.inl rfl) Fu23 rfl rfl ?_; clear hS
         intro tm hS
         refine o_len (k := 8) (r := (rI .i64)) hS (.inr ⟨_, _, _, _, rfl, rfl, rfl, hg5⟩) rfl rfl rfl (.inr (.inl rfl)) Fu23 rfl ?_; clear hS
         intro tm hS
         refine o_pure hS (.inr ⟨_, _, _, _, rfl, rfl, rfl, hg5⟩) rfl rfl ?_; clear hS
         intro tm hS
         refine o_pickT hS (.inl rfl) rfl rfl hg5 rfl ?_; clear hS
         intro tm hS
         have hc5 : c6 = ((r11.Data.length : Int) == 0) := hc5.trans (by rw [hg5]; first | rfl | simp)
         subst hc5
         exact o_nil (hS.keep (ka_cons rfl ka_nil) (fun hI => (hI.sub sn)))
        ·refine o_skip hS rfl rfl rfl hg5 ?_; clear hS
         intro tm hS
         refine o_skip hS rfl rfl rfl hg5 ?_; clear hS
         intro tm hS
         refine o_skip hS rfl rfl rfl hg5 ?_; clear hS
         intro tm hS
         refine o_skip hS rfl rfl rfl hg5 ?_; clear hS
         intro tm hS
         refine o_pickF hS (.inl rfl) rfl rfl hg5 rfl ?_; clear hS
         intro tm hS
         have hc5 : c6 = false := hc5.trans (by rw [hg5]; first | rfl | simp)
         subst hc5
         exact o_nil (hS.keep (ka_cons rfl ka_nil) (fun hI => (hI.sub sn)))
       intro tm H hS
       subst hc5
       refine pp1 hS rfl rfl ?_; clear hS
       intro tm hS
       obtain ⟨c7, hc6⟩ : ∃ x : Bool, x = (((r12 == 0) && ((r11.Data.length : Int) == 0)) && true) := ⟨_, rfl⟩
       refine o_cutN 2 (J := fun tm H => S wm 166 tm H [(144, .bool c7)] [] Fr) ?_ ?_
       ·rcases Bool.eq_false_or_eq_true ((r12 == 0) && ((r11.Data.length : Int) == 0)) with hg6 | hg6
        ·refine o_call hS (.inr ⟨_, _, _, _, rfl, rfl, rfl, hg6⟩) rfl (fun wm' hw1 hw2 => wpF.told ho9 (Q := fun v H' => v = .bool true ∧ H' = H) ⟨rfl, rfl⟩) (fun wm' res H hw' hp => ?_)
         obtain ⟨rfl, rfl⟩ := hp
         replace hS := hS.put (d := 143) rfl (.bool true)
         clear hw'
         refine o_pickT hS (.inl rfl) rfl rfl hg6 rfl ?_; clear hS
         intro tm hS
         have hc6 : c7 = true := hc6.trans (by rw [hg6]; first | rfl | simp)
         subst hc6
         exact o_nil (hS.keep (ka_cons rfl ka_nil) (fun hI => (hI.sub sn)))
        ·refine o_skip hS rfl rfl rfl hg6 ?_; clear hS
         intro tm hS
         refine o_pickF hS (.inl rfl) rfl rfl hg6 rfl ?_; clear hS
         intro tm hS
         have hc6 : c7 = false := hc6.trans (by rw [hg6]; first | rfl | simp)
         subst hc6
         exact o_nil (hS.keep (ka_cons rfl ka_nil) (fun hI => (hI.sub sn)))
       intro tm H hS
       subst hc6
       refine pp1 hS rfl rfl ?_; clear hS
       intro tm hS
       refine o_nil (hR _ _ ?_)
       clear hR R
       refine wpC.ret ?_
       obtain rfl := Option.some.inj h0
       refine Exists.intro _ (And.intro (rs_tmp hS rfl rs_nil) ?_)
       have hI := hS.inv
       exact ⟨rfl, (hI.sub sn)⟩
      ·replace h0 := iteF hc h0
       refine wpC.skip ?_
       refine c_reg fun R hR => ?_
       refine pp3 hS rfl rfl rfl rfl rfl rfl ?_; clear hS
       intro tm hS
       obtain ⟨c8, hc7, h0⟩ := bindS h0
       refine o_cutN 5 (J := fun tm H => S wm 166 tm H [(152, .bool c8), (18, .pointer (some ⟨b5, 0, none⟩)), (19, .int .i64 r14), (20, .pointer (some ⟨b6, 0, none⟩)), (21, .int .i64 r16)] [.box b6 [.bool r15.Char, v26, v27], .own (rI .i64) v26 r15.Shape, .own (rI .i64) v27 r15.Data, .box b5 [.bool r13.Char, v24, v25], .own (rI .i64) v24 r13.Shape, .own (rI .i64) v25 r13.Data] Fr) ?_ ?_
       ·rcases Bool.eq_false_or_eq_true (r8 == 0) with hg7 | hg7
        ·replace hc7 := iteT hg7 hc7
         refine o_ldA (k := 6) hS (.inr ⟨_, _, _, _, rfl, rfl, rfl, hg7⟩) rfl rfl rfl (.inl rfl) Fu25 rfl Fs25 rfl ?_; clear hS
         intro tm hS
         refine o_pure hS (.inr ⟨_, _, _, _, rfl, rfl, rfl, hg7⟩) rfl rfl ?_; clear hS
         intro tm hS
         refine o_ldA (k := 9) hS (.inr ⟨_, _, _, _, rfl, rfl, rfl, hg7⟩) rfl rfl rfl (.inl rfl) Fu25 rfl Fs25 rfl ?_; clear hS
         intro tm hS
         obtain ⟨r17, hx17, hc7⟩ := bindS hc7
         refine o_call (Pc := fun _ res H => res = .bool r17 ∧ Kn wm H ([.box b6 [.bool r15.Char, v26, v27], .own (rI .i64) v26 r15.Shape, .own (rI .i64) v27 r15.Data, .box b5 [.bool r13.Char, v24, v25], .own (rI .i64) v24 r13.Shape, .own (rI .i64) v25 r13.Data, .box b4 [.bool r11.Char, v22, v23], .own (rI .i64) v22 r11.Shape, .own (rI .i64) v23 r11.Data, .box b3 [.bool r7.Char, v6, v7], .own (rI .i64) v6 r7.Shape, .own (rI .i64) v7 r7.Data]) Fr) hS (.inr ⟨_, _, _, _, rfl, rfl, rfl, hg7⟩) rfl (fun wm' hw1 hw2 => by
          obtain ⟨F2, kk_1, kk_2⟩ := hS.inv.lend (La := [.fz (rI .i64) v22 r11.Shape, .fz (rI .i64) v23 r11.Data, .fz (rI .i64) v6 r7.Shape, .fz (rI .i64) v7 r7.Data]) (List.forall_mem_cons.mpr ⟨(.inr ⟨_, _, _, _, rfl, .inl (List.mem_of_getElem? (i := 7) rfl)⟩), (List.forall_mem_cons.mpr ⟨(.inr ⟨_, _, _, _, rfl, .inl (List.mem_of_getElem? (i := 8) rfl)⟩), (List.forall_mem_cons.mpr ⟨(.inr ⟨_, _, _, _, rfl, .inl (List.mem_of_getElem? (i := 10) rfl)⟩), (List.forall_mem_cons.mpr ⟨(.inr ⟨_, _, _, _, rfl, .inl (List.mem_of_getElem? (i := 11) rfl)⟩), (fun _ h => by cases h)⟩)⟩)⟩)⟩) hw1 hw2
          exact (wk12  r11 r12 r7  v22 v23 v6 v7 kk_1 hx17).mono fun res H2 ⟨qq_1, qq_2⟩ => ⟨qq_1, kk_2 _ qq_2⟩) (fun wm' res H hw' hp => ?_)
         obtain ⟨hres, hI⟩ := hp
         replace hres := hres.symm; subst hres
         replace hS : S wm 166 _ H ((151, .bool r17) :: _) ([.box b6 [.bool r15.Char, v26, v27], .own (rI .i64) v26 r15.Shape, .own (rI .i64) v27 r15.Data, .box b5 [.bool r13.Char, v24, v25], .own (rI .i64) v24 r13.Shape, .own (rI .i64) v25 r13.Data, .box b4 [.bool r11.Char, v22, v23], .own (rI .i64) v22 r11.Shape, .own (rI .i64) v23 r11.Data, .box b3 [.bool r7.Char, v6, v7], .own (rI .i64) v6 r7.Shape, .own (rI .i64) v7 r7.Data]) Fr := (hS.put rfl _).withK hI
         clear hI hw'
         refine o_pickT hS (.inl rfl) rfl rfl hg7 rfl ?_; clear hS
         intro tm hS
         obtain rfl := Option.some.inj hc7
         exact o_nil (hS.keep (k5 rfl rfl rfl rfl rfl) (fun hI => (hI.sub (sc (sc (sc (sc (sc (sc sn)))))))))
        ·replace hc7 := iteF hg7 hc7
         refine o_skip hS rfl rfl rfl hg7 ?_; clear hS
         intro tm hS
         refine o_skip hS rfl rfl rfl hg7 ?_; clear hS
         intro tm hS
         refine o_skip hS rfl rfl rfl hg7 ?_; clear hS
         intro tm hS
         refine o_skip hS rfl rfl rfl hg7 ?_; clear hS
         intro tm hS
         refine o_pickF hS (.inl rfl) rfl rfl hg7 rfl ?_; clear hS
         intro tm hS
         obtain rfl := Option.some.inj hc7
         exact o_nil (hS.keep (k5 rfl rfl rfl rfl rfl) (fun hI => (hI.sub (sc (sc (sc (sc (sc (sc sn)))))))))
       intro tm H hS
       refine pp1 hS rfl rfl ?_; clear hS
       intro tm hS
       obtain ⟨c9, hc8⟩ : ∃ x : Bool, x = (c8 && (r14 == 0)) := ⟨_, rfl⟩
       refine o_cutN 3 (J := fun tm H => S wm 166 tm H [(156, .bool c9), (18, .pointer (some ⟨b5, 0, none⟩)), (20, .pointer (some ⟨b6, 0, none⟩)), (21, .int .i64 r16)] [.box b6 [.bool r15.Char, v26, v27], .own (rI .i64) v26 r15.Shape, .own (rI .i64) v27 r15.Data, .box b5 [.bool r13.Char, v24, v25], .own (rI .i64) v24 r13.Shape, .own (rI .i64) v25 r13.Data] Fr) ?_ ?_
       ·rcases Bool.eq_false_or_eq_true c8 with hg8 | hg8
        ·refine o_pure hS (.inr ⟨_, _, _, _, rfl, rfl, rfl, hg8⟩) rfl rfl ?_; clear hS
         intro tm hS
         refine o_pure hS (.inr ⟨_, _, _, _, rfl, rfl, rfl, hg8⟩) rfl rfl ?_; clear hS
         intro tm hS
         refine o_pickT hS (.inl rfl) rfl rfl hg8 rfl ?_; clear hS
         intro tm hS
         have hc8 : c9 = (r14 == 0) := hc8.trans (by rw [hg8]; first | rfl | simp)
         subst hc8
         exact o_nil (hS.keep (k4 rfl rfl rfl rfl) (fun hI => (hI.sub (sc (sc (sc (sc (sc (sc sn)))))))))
        ·refine o_skip hS rfl rfl rfl hg8 ?_; clear hS
         intro tm hS
         refine o_skip hS rfl rfl rfl hg8 ?_; clear hS
         intro tm hS
         refine o_pickF hS (.inl rfl) rfl rfl hg8 rfl ?_; clear hS
         intro tm hS
         have hc8 : c9 = false := hc8.trans (by rw [hg8]; first | rfl | simp)
         subst hc8
         exact o_nil (hS.keep (k4 rfl rfl rfl rfl) (fun hI => (hI.sub (sc (sc (sc (sc (sc (sc sn)))))))))
       intro tm H hS
       subst hc8
       refine pp1 hS rfl rfl ?_; clear hS
       intro tm hS
       obtain ⟨c10, hc9, h0⟩ := bindS h0
       refine o_cutN 5 (J := fun tm H => S wm 166 tm H [(162, .bool c10)] [] Fr) ?_ ?_
       ·rcases Bool.eq_false_or_eq_true (c8 && (r14 == 0)) with hg9 | hg9
        ·replace hc9 := iteT hg9 hc9
         refine o_ldA (k := 3) hS (.inr ⟨_, _, _, _, rfl, rfl, rfl, hg9⟩) rfl rfl rfl (.inl rfl) Fu25 rfl Fs25 rfl ?_; clear hS
         intro tm hS
         refine o_pure hS (.inr ⟨_, _, _, _, rfl, rfl, rfl, hg9⟩) rfl rfl ?_; clear hS
         intro tm hS
         refine o_ldA (k := 0) hS (.inr ⟨_, _, _, _, rfl, rfl, rfl, hg9⟩) rfl rfl rfl (.inl rfl) Fu25 rfl Fs25 rfl ?_; clear hS
         intro tm hS
         obtain ⟨r18, hx18, hc9⟩ := bindS hc9
         refine o_call (Pc := fun _ res H => res = .bool r18 ∧ Kn wm H ([.box b6 [.bool r15.Char, v26, v27], .own (rI .i64) v26 r15.Shape, .own (rI .i64) v27 r15.Data, .box b5 [.bool r13.Char, v24, v25], .own (rI .i64) v24 r13.Shape, .own (rI .i64) v25 r13.Data]) Fr) hS (.inr ⟨_, _, _, _, rfl, rfl, rfl, hg9⟩) rfl (fun wm' hw1 hw2 => by
          obtain ⟨F2, kk_1, kk_2⟩ := hS.inv.lend (La := [.fz (rI .i64) v24 r13.Shape, .fz (rI .i64) v25 r13.Data, .fz (rI .i64) v26 r15.Shape, .fz (rI .i64) v27 r15.Data]) (List.forall_mem_cons.mpr ⟨(.inr ⟨_, _, _, _, rfl, .inl (List.mem_of_getElem? (i := 4) rfl)⟩), (List.forall_mem_cons.mpr ⟨(.inr ⟨_, _, _, _, rfl, .inl (List.mem_of_getElem? (i := 5) rfl)⟩), (List.forall_mem_cons.mpr ⟨(.inr ⟨_, _, _, _, rfl, .inl (List.mem_of_getElem? (i := 1) rfl)⟩), (List.forall_mem_cons.mpr ⟨(.inr ⟨_, _, _, _, rfl, .inl (List.mem_of_getElem? (i := 2) rfl)⟩), (fun _ h => by cases h)⟩)⟩)⟩)⟩) hw1 hw2
          exact (wk12  r13 r16 r15  v24 v25 v26 v27 kk_1 hx18).mono fun res H2 ⟨qq_1, qq_2⟩ => ⟨qq_1, kk_2 _ qq_2⟩) (fun wm' res H hw' hp => ?_)
         obtain ⟨hres, hI⟩ := hp
         replace hres := hres.symm; subst hres
         replace hS : S wm 166 _ H ((161, .bool r18) :: _) ([.box b6 [.bool r15.Char, v26, v27], .own (rI .i64) v26 r15.Shape, .own (rI .i64) v27 r15.Data, .box b5 [.bool r13.Char, v24, v25], .own (rI .i64) v24 r13.Shape, .own (rI .i64) v25 r13.Data]) Fr := (hS.put rfl _).withK hI
         clear hI hw'
         refine o_pickT hS (.inl rfl) rfl rfl hg9 rfl ?_; clear hS
         intro tm hS
         obtain rfl := Option.some.inj hc9
         exact o_nil (hS.keep (ka_cons rfl ka_nil) (fun hI => (hI.sub sn)))
        ·replace hc9 := iteF hg9 hc9
         refine o_skip hS rfl rfl rfl hg9 ?_; clear hS
         intro tm hS
         refine o_skip hS rfl rfl rfl hg9 ?_; clear hS
         intro tm hS
         refine o_skip hS rfl rfl rfl hg9 ?_; clear hS
         intro tm hS
         refine o_skip hS rfl rfl rfl hg9 ?_; clear hS
         intro tm hS
         refine o_pickF hS (.inl rfl) rfl rfl hg9 rfl ?_; clear hS
         intro tm hS
         obtain rfl := Option.some.inj hc9
         exact o_nil (hS.keep (ka_cons rfl ka_nil) (fun hI => (hI.sub sn)))
       intro tm H hS
       refine pp1 hS rfl rfl ?_; clear hS
       intro tm hS
       obtain ⟨c11, hc10⟩ : ∃ x : Bool, x = (c10 && true) := ⟨_, rfl⟩
       refine o_cutN 2 (J := fun tm H => S wm 166 tm H [(165, .bool c11)] [] Fr) ?_ ?_
       ·rcases Bool.eq_false_or_eq_true c10 with hg10 | hg10
        ·refine o_call hS (.inr ⟨_, _, _, _, rfl, rfl, rfl, hg10⟩) rfl (fun wm' hw1 hw2 => wpF.told ho9 (Q := fun v H' => v = .bool true ∧ H' = H) ⟨rfl, rfl⟩) (fun wm' res H hw' hp => ?_)
         obtain ⟨rfl, rfl⟩ := hp
         replace hS := hS.put (d := 164) rfl (.bool true)
         clear hw'
         refine o_pickT hS (.inl rfl) rfl rfl hg10 rfl ?_; clear hS
         intro tm hS
         have hc10 : c11 = true := hc10.trans (by rw [hg10]; first | rfl | simp)
         subst hc10
         exact o_nil (hS.keep (ka_cons rfl ka_nil) (fun hI => (hI.sub sn)))
        ·refine o_skip hS rfl rfl rfl hg10 ?_; clear hS
         intro tm hS
         refine o_pickF hS (.inl rfl) rfl rfl hg10 rfl ?_; clear hS
         intro tm hS
         have hc10 : c11 = false := hc10.trans (by rw [hg10]; first | rfl | simp)
         subst hc10
         exact o_nil (hS.keep (ka_cons rfl ka_nil) (fun hI => (hI.sub sn)))
       intro tm H hS
       subst hc10
       refine pp1 hS rfl rfl ?_; clear hS
       intro tm hS
       refine o_nil (hR _ _ ?_)
       clear hR R
       refine wpC.ret ?_
       obtain rfl := Option.some.inj h0
       refine Exists.intro _ (And.intro (rs_tmp hS rfl rs_nil) ?_)
       have hI := hS.inv
       exact ⟨rfl, (hI.sub sn)⟩
end Go.Proofs.Ytblgdjpeedgnoaa.overLast
