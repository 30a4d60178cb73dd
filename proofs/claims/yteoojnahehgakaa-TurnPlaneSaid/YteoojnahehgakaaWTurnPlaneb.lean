/- TurnPlane: walks of the code: the run of each function comes to what its plain function says. -/
import Derived.Test.YteoojnahehgakaaWTurnPlanea
set_option maxHeartbeats 4000000
set_option linter.unusedVariables false
set_option linter.unusedSimpArgs false
set_option maxRecDepth 100000
open Go Go.Am Go.Proofs
namespace Go.Proofs.Yteoojnahehgakaa.turnPlane
variable {ora : FuncId → Bool}
theorem wk7 {wm : Nat} {H : AHeap} {Fr : List Ent} (ho17 : ora 17 = true) (ho32 : ora 32 = false) (rows1 : Int) (cols1 : Int) (char1 : Bool) (l1 : (List Int))  (v1 : Value) (hI : Kn wm H [.fz (rI .u8) v1 l1] Fr) {r : Bool} (h0 : M.anamnesislaw08_TurnPlane rows1 cols1 char1 l1 = some r) :
  wpF Try.prog ora wm 7 [.int .u8 rows1, .int .u8 cols1, .bool char1, v1] H (fun res H => res = .bool r ∧ Kn wm H [] Fr) := by
 unfold M.anamnesislaw08_TurnPlane at h0
 refine f_enter (n := 121) Try.func7 rfl (by simp) hI rfl rfl rfl fun tm hS => ?_
 clear hI
 refine c_reg fun R hR => ?_
 refine o_pure hS (.inl rfl) rfl rfl ?_; clear hS; try clear tm
 intro tm hS
 refine o_nil (hR _ _ ?_)
 clear hR R
 refine c_seqS ?_
 refine c_reg fun R hR => ?_
 refine o_pure hS (.inl rfl) rfl rfl ?_; clear hS; try clear tm
 intro tm hS
 refine o_len (k := 0) (r := (rI .u8)) hS (.inl rfl) rfl rfl rfl (.inl rfl) Fu48 rfl ?_; clear hS; try clear tm
 intro tm hS
 refine o_pure hS (.inl rfl) rfl rfl ?_; clear hS; try clear tm
 intro tm hS
 refine o_nil (hR _ _ ?_)
 clear hR R
 refine c_cond hS rfl (fun hc => ?_) (fun hc => ?_)
 ·replace h0 := iteT hc h0
  refine c_reg fun R hR => ?_
  refine o_call hS (.inl rfl) rfl (fun wm' hw1 hw2 => wpF.told ho17 (Q := fun v H' => v = .bool true ∧ H' = H) ⟨rfl, rfl⟩) (fun wm' res H hw' hp => ?_)
  obtain ⟨rfl, rfl⟩ := hp
  replace hS := hS.put (d := 25) rfl (.bool true)
  clear hw'
  refine o_pure hS (.inl rfl) rfl rfl ?_; clear hS; try clear tm
  intro tm hS
  refine o_nil (hR _ _ ?_)
  clear hR R
  refine wpC.ret ?_
  obtain rfl := Option.some.inj h0
  refine Exists.intro _ (And.intro (rs_tmp hS rfl rs_nil) ?_)
  have hI := hS.inv
  exact ⟨rfl, (hI.sub sn)⟩
 ·replace h0 := iteF hc h0
  refine wpC.skip ?_
  refine c_reg fun R hR => ?_
  refine o_pure hS (.inl rfl) rfl rfl ?_; clear hS; try clear tm
  intro tm hS
  refine o_pure hS (.inl rfl) rfl rfl ?_; clear hS; try clear tm
  intro tm hS
  refine o_pure hS (.inl rfl) rfl rfl ?_; clear hS; try clear tm
  intro tm hS
  refine o_pure hS (.inl rfl) rfl rfl ?_; clear hS; try clear tm
  intro tm hS
  refine o_pure hS (.inl rfl) rfl rfl ?_; clear hS; try clear tm
  intro tm hS
  refine o_pure hS (.inl rfl) rfl rfl ?_; clear hS; try clear tm
  intro tm hS
  refine o_pure hS (.inl rfl) rfl rfl ?_; clear hS; try clear tm
  intro tm hS
  refine o_pure hS (.inl rfl) rfl rfl ?_; clear hS; try clear tm
  intro tm hS
  refine o_nil (hR _ _ ?_)
  clear hR R
  refine c_reg fun R hR => ?_
  refine o_pure hS (.inl rfl) rfl rfl ?_; clear hS; try clear tm
  intro tm hS
  refine o_pure hS (.inl rfl) rfl rfl ?_; clear hS; try clear tm
  intro tm hS
  refine o_pure hS (.inl rfl) rfl rfl ?_; clear hS; try clear tm
  intro tm hS
  refine o_lit (r := (rI .i64)) (l := [(IntKind.i64.wrap (Int.tmod rows1 21)), (IntKind.i64.wrap (Int.tmod cols1 21))]) hS (.inl rfl) rfl Fl22 rfl rfl rfl (.cons rfl (.cons rfl .nil)) rfl rfl (ri_1 (rd_flat fun _ => rfl) (ri_1 (rd_flat fun _ => rfl) ri_nil)) rfl ?_; clear hS; try clear tm H
  intro v2 tm H hS
  refine o_build hS (.inl rfl) rfl Fb25 rfl (.cons rfl (.cons (cells_one (hS.one (k := 0) rfl (.inr (.inr rfl)))) .nil)) rfl ?_; clear hS; try clear tm
  intro tm hS
  refine o_alloc hS (.inl rfl) rfl Fz25 (by decide) ?_; clear hS; try clear tm H
  intro b1 tm H hS
  refine o_st (k := 0) hS (.inl rfl) rfl rfl rfl Fs25 rfl rfl (all_cons rfl (all_cons (hS.one (k := 1) rfl (.inr (.inr rfl))) (all_cons rfl all_nil))) rfl ?_; clear hS; try clear H
  intro H hS
  refine o_nil (hR _ _ ?_)
  clear hR R
  refine c_seqS ?_
  refine c_reg fun R hR => ?_
  refine o_pure hS (.inl rfl) rfl rfl ?_; clear hS; try clear tm
  intro tm hS
  refine o_nil (hR _ _ ?_)
  clear hR R
  obtain ⟨k1, hw1, h0⟩ := bindS h0
  refine wpC.block ?_
  replace hS := hS.nilOwn (rI .i64)
  refine c_loop (I := fun (s : Int × (List Int)) tm H => match (generalizing := false) s with | (i1, Data1) => ∃ v3, S wm 121 tm H [(3, v1), (9, .int .i64 (IntKind.i64.wrap (Int.tmod rows1 21))), (10, .int .i64 (IntKind.i64.wrap (Int.tmod cols1 21))), (11, .pointer (some ⟨b1, 0, none⟩)), (12, .int .i64 i1)] [.box b1 [.bool char1, v2, v3], .own (rI .i64) v3 Data1, .fz (rI .u8) v1 l1, .lit (rI .i64) v2 ([(IntKind.i64.wrap (Int.tmod rows1 21)), (IntKind.i64.wrap (Int.tmod cols1 21))])] Fr) hw1 (by refine Exists.intro (.slice none 0 0) ?_; change S wm 121 _ _ _ _ Fr; exact hS.keep (ka_cons rfl (ka_cons rfl (ka_cons rfl (ka_cons rfl (ka_cons rfl ka_nil))))) (fun hI => (((((hI.pull 2 rfl).pull 3 rfl).pull 2 rfl).pull 3 rfl).take 4))) ?_
  clear hS
  intro s1 tm H c1 hS h1 hq1
  obtain ⟨i1, Data1⟩ := s1
  obtain ⟨v3, hS⟩ := hS
  change S wm 121 tm H [(3, v1), (9, .int .i64 (IntKind.i64.wrap (Int.tmod rows1 21))), (10, .int .i64 (IntKind.i64.wrap (Int.tmod cols1 21))), (11, .pointer (some ⟨b1, 0, none⟩)), (12, .int .i64 i1)] [.box b1 [.bool char1, v2, v3], .own (rI .i64) v3 Data1, .fz (rI .u8) v1 l1, .lit (rI .i64) v2 ([(IntKind.i64.wrap (Int.tmod rows1 21)), (IntKind.i64.wrap (Int.tmod cols1 21))])] Fr at hS
  refine c_seqS ?_
  refine c_reg fun R hR => ?_
  refine o_pure hS (.inl rfl) rfl rfl ?_; clear hS; try clear tm
  intro tm hS
  refine o_pure hS (.inl rfl) rfl rfl ?_; clear hS; try clear tm
  intro tm hS
  refine o_pure hS (.inl rfl) rfl rfl ?_; clear hS; try clear tm
  intro tm hS
  refine o_pure hS (.inl rfl) rfl rfl ?_; clear hS; try clear tm
  intro tm hS
  refine o_pure hS (.inl rfl) rfl rfl ?_; clear hS; try clear tm
  intro tm hS
  refine o_nil (hR _ _ ?_)
  clear hR R
  refine c_cond hS rfl (fun hc => ?_) (fun hc => ?_)
  ·replace h1 := iteT hc h1
   refine wpC.skip ?_
   refine c_seqS ?_
   refine wpC.block ?_
   refine c_reg1 fun R hR => ?_
   refine o_pure hS (.inl rfl) rfl rfl ?_; clear hS; try clear tm
   intro tm hS
   refine o_ld1 (k := 0) hS (.inl rfl) rfl rfl rfl (.inl rfl) Fu23 rfl rfl ?_; clear hS; try clear tm
   intro tm hS
   refine o_pure hS (.inl rfl) rfl rfl ?_; clear hS; try clear tm
   intro tm hS
   refine o_pure hS (.inl rfl) rfl rfl ?_; clear hS; try clear tm
   intro tm hS
   refine o_lit (r := (rI .i64)) (l := [(IntKind.i64.wrap (i1 + 32))]) hS (.inl rfl) rfl Fl23 rfl rfl rfl (.cons rfl .nil) rfl rfl (ri_1 (rd_flat fun _ => rfl) ri_nil) rfl ?_; clear hS; try clear tm H
   intro v4 tm H hS
   obtain ⟨l2, hx1, h1⟩ := bindS h1
   refine o_app (k1 := 2) (k2 := 0) (r := (rI .i64)) hS (.inl rfl) rfl rfl rfl rfl rfl (.inr (.inr rfl)) rfl Fe23_23 rfl hx1 ?_; clear hS; try clear tm H
   intro v5 tm H hS
   refine o_pure hS (.inl rfl) rfl rfl ?_; clear hS; try clear tm
   intro tm hS
   refine o_st (k := 1) hS (.inl rfl) rfl rfl rfl Fs23 (cells_one (hS.one (k := 2) rfl (.inr (.inl rfl)))) rfl (all_cons (hS.one (k := 2) rfl (.inr (.inl rfl))) all_nil) rfl ?_; clear hS; try clear H
   intro H hS
   refine o_nil (hR _ _ ?_)
   clear hR R
   refine c_reg1 fun R hR => ?_
   refine o_pure hS (.inl rfl) rfl rfl ?_; clear hS; try clear tm
   intro tm hS
   refine o_pure hS (.inl rfl) rfl rfl ?_; clear hS; try clear tm
   intro tm hS
   refine o_pure hS (.inl rfl) rfl rfl ?_; clear hS; try clear tm
   intro tm hS
   refine o_nil (hR _ _ ?_)
   clear hR R
   obtain rfl := Option.some.inj h1
   refine ⟨_, rfl, ?_⟩
   refine Exists.intro v5 ?_; change S wm 121 _ _ _ _ Fr; exact hS.keep (ka_cons rfl (ka_cons rfl (ka_cons rfl (ka_cons rfl (ka_cons rfl ka_nil))))) (fun hI => (hI.sub (sd (sc (sc (sc (sc sn)))))))
  ·replace h1 := iteF hc h1
   refine wpC.exit ?_
   refine seqX ?_
   obtain rfl := Option.some.inj h1
   obtain rfl := hq1 _ rfl
   refine And.intro rfl (blk_eq ?_)
   replace h0 := joinN h0
   refine c_reg fun R hR => ?_
   refine o_ldA (k := 0) hS (.inl rfl) rfl rfl rfl (.inl rfl) Fu25 rfl Fs25 rfl ?_; clear hS; try clear tm
   intro tm hS
   refine o_alloc hS (.inl rfl) rfl Fz25 (by decide) ?_; clear hS; try clear tm H
   intro b2 tm H hS
   refine o_st (k := 0) hS (.inl rfl) rfl rfl rfl Fs25 rfl rfl (all_cons rfl (all_cons (hS.one (k := 4) rfl (.inr (.inr rfl))) (all_cons (hS.one (k := 2) rfl (.inr (.inl rfl))) all_nil))) rfl ?_; clear hS; try clear H
   intro H hS
   refine o_nil (hR _ _ ?_)
   clear hR R
   refine c_reg fun R hR => ?_
   refine o_build hS (.inl rfl) rfl Fb51 rfl .nil rfl ?_; clear hS; try clear tm
   intro tm hS
   refine o_alloc hS (.inl rfl) rfl Fz51 (by decide) ?_; clear hS; try clear tm H
   intro b3 tm H hS
   refine o_st (k := 0) hS (.inl rfl) rfl rfl rfl Fs51 rfl rfl (all_cons rfl (all_cons rfl all_nil)) rfl ?_; clear hS; try clear H
   intro H hS
   refine o_nil (hR _ _ ?_)
   clear hR R
   refine c_seqS ?_
   refine c_reg fun R hR => ?_
   refine o_pure hS (.inl rfl) rfl rfl ?_; clear hS; try clear tm
   intro tm hS
   refine o_nil (hR _ _ ?_)
   clear hR R
   replace hS := hS.frz (k := 3) rfl
   replace hS := hS.litFrz (k := 5) rfl
   obtain ⟨k2, hw2, h0⟩ := bindS h0
   refine wpC.block ?_
   refine c_loop (I := fun (s : Int × Bool × (List Int) × (List Int) × Int × Bool) tm H => match (generalizing := false) s with | (i2, Char1, Shape1, Data2, Turn1, Flip1) => ∃ v6 v7, S wm 121 tm H [(3, v1), (11, .pointer (some ⟨b1, 0, none⟩)), (13, .pointer (some ⟨b2, 0, none⟩)), (14, .pointer (some ⟨b3, 0, none⟩)), (15, .int .i64 i2)] [.box b1 [.bool char1, v2, v3], .box b2 [.bool Char1, v6, v7], .box b3 [.int .i64 Turn1, .bool Flip1], .fz (rI .i64) v6 Shape1, .fz (rI .i64) v7 Data2, .fz (rI .u8) v1 l1, .fz (rI .i64) v2 ([(IntKind.i64.wrap (Int.tmod rows1 21)), (IntKind.i64.wrap (Int.tmod cols1 21))]), .fz (rI .i64) v3 Data1] Fr) hw2 (by refine Exists.intro v2 ?_; refine Exists.intro v3 ?_; change S wm 121 _ _ _ _ Fr; exact hS.keep (ka_cons rfl (ka_cons rfl (ka_cons rfl (ka_cons rfl (ka_cons rfl ka_nil))))) (fun hI => (((((((((hI.pull 3 rfl).pull 5 rfl).pull 5 rfl).dup 2 rfl).dup 2 rfl).pull 5 rfl).pull 6 rfl).pull 7 rfl).take 8))) ?_
   clear hS
   intro s2 tm H c2 hS h9 hq9
   obtain ⟨i2, Char1, Shape1, Data2, Turn1, Flip1⟩ := s2
   obtain ⟨v6, v7, hS⟩ := hS
   change S wm 121 tm H [(3, v1), (11, .pointer (some ⟨b1, 0, none⟩)), (13, .pointer (some ⟨b2, 0, none⟩)), (14, .pointer (some ⟨b3, 0, none⟩)), (15, .int .i64 i2)] [.box b1 [.bool char1, v2, v3], .box b2 [.bool Char1, v6, v7], .box b3 [.int .i64 Turn1, .bool Flip1], .fz (rI .i64) v6 Shape1, .fz (rI .i64) v7 Data2, .fz (rI .u8) v1 l1, .fz (rI .i64) v2 ([(IntKind.i64.wrap (Int.tmod rows1 21)), (IntKind.i64.wrap (Int.tmod cols1 21))]), .fz (rI .i64) v3 Data1] Fr at hS
   refine c_seqS ?_
   refine c_reg fun R hR => ?_
   refine o_pure hS (.inl rfl) rfl rfl ?_; clear hS; try clear tm
   intro tm hS
   refine o_pure hS (.inl rfl) rfl rfl ?_; clear hS; try clear tm
   intro tm hS
   refine o_len (k := 5) (r := (rI .u8)) hS (.inl rfl) rfl rfl rfl (.inl rfl) Fu48 rfl ?_; clear hS; try clear tm
   intro tm hS
   refine o_pure hS (.inl rfl) rfl rfl ?_; clear hS; try clear tm
   intro tm hS
   refine o_nil (hR _ _ ?_)
   clear hR R
   refine c_cond hS rfl (fun hc => ?_) (fun hc => ?_)
   ·replace h9 := iteT hc h9
    refine wpC.skip ?_
    refine c_seqS ?_
    refine wpC.block ?_
    refine c_reg fun R hR => ?_
    refine o_pure hS (.inl rfl) rfl rfl ?_; clear hS; try clear tm
    intro tm hS
    refine o_nil (hR _ _ ?_)
    clear hR R
    refine c_reg fun R hR => ?_
    refine o_lit (r := rS) (l := [str_226_140_189, str_226_138_150, str_226_141_137]) hS (.inl rfl) rfl Fl52 rfl rfl rfl (.cons rfl (.cons rfl (.cons rfl .nil))) rfl rfl (ri_1 (rd_flat fun _ => rfl) (ri_1 (rd_flat fun _ => rfl) (ri_1 (rd_flat fun _ => rfl) ri_nil))) rfl ?_; clear hS; try clear tm H
    intro v8 tm H hS
    refine o_pure hS (.inl rfl) rfl rfl ?_; clear hS; try clear tm
    intro tm hS
    refine o_pure hS (.inl rfl) rfl rfl ?_; clear hS; try clear tm
    intro tm hS
    obtain ⟨y1, hx2, h9⟩ := bindS h9
    refine o_ixA (k := 6) (r := (rI .u8)) hS (.inl rfl) rfl rfl rfl rfl (.inl rfl) Fu48 Fs5 hx2 ?_; clear hS; try clear tm
    intro tm hS
    refine o_ldF (r := (rI .u8)) (k := 6) hS (.inl rfl) rfl rfl rfl (.inl rfl) hx2 Fu5 rfl (flat_I _) rfl ?_; clear hS; try clear tm
    intro tm hS
    refine o_pure hS (.inl rfl) rfl rfl ?_; clear hS; try clear tm
    intro tm hS
    obtain ⟨y2, hx3, h9⟩ := bindS h9
    refine o_ixA (k := 0) (r := rS) hS (.inl rfl) rfl rfl rfl rfl (.inr (.inr rfl)) Fu52 Fs9 hx3 ?_; clear hS; try clear tm
    intro tm hS
    refine o_ldF (r := rS) (k := 0) hS (.inl rfl) rfl rfl rfl (.inr (.inr rfl)) hx3 Fu9 rfl flat_S rfl ?_; clear hS; try clear tm
    intro tm hS
    refine o_pure hS (.inl rfl) rfl rfl ?_; clear hS; try clear tm
    intro tm hS
    refine o_nil (hR _ _ ?_)
    clear hR R
    obtain ⟨k3, h11, h9⟩ := bindS h9
    refine c_seqJ (J := fun tm H => (match (generalizing := false) k3 with | (e1, Char2, Shape2, Data3) => ∃ v9 v10, S wm 121 tm H [(3, v1), (11, .pointer (some ⟨b1, 0, none⟩)), (13, .pointer (some ⟨b2, 0, none⟩)), (14, .pointer (some ⟨b3, 0, none⟩)), (15, .int .i64 i2), (16, .int .i64 e1), (17, .string y2)] [.box b1 [.bool char1, v2, v3], .box b2 [.bool Char2, v9, v10], .box b3 [.int .i64 Turn1, .bool Flip1], .own (rI .i64) v9 Shape2, .own (rI .i64) v10 Data3, .fz (rI .u8) v1 l1, .fz (rI .i64) v2 ([(IntKind.i64.wrap (Int.tmod rows1 21)), (IntKind.i64.wrap (Int.tmod cols1 21))]), .fz (rI .i64) v3 Data1] Fr)) ?_ ?_
    ·refine c_reg fun R hR => ?_
     refine o_pure hS (.inl rfl) rfl rfl ?_; clear hS; try clear tm
     intro tm hS
     refine o_pure hS (.inl rfl) rfl rfl ?_; clear hS; try clear tm
     intro tm hS
     obtain ⟨y3, hx4, h11⟩ := bindS h11
     refine o_ixA (k := 6) (r := (rI .u8)) hS (.inl rfl) rfl rfl rfl rfl (.inl rfl) Fu48 Fs5 hx4 ?_; clear hS; try clear tm
     intro tm hS
     refine o_ldF (r := (rI .u8)) (k := 6) hS (.inl rfl) rfl rfl rfl (.inl rfl) hx4 Fu5 rfl (flat_I _) rfl ?_; clear hS; try clear tm
     intro tm hS
     refine o_pure hS (.inl rfl) rfl rfl ?_; clear hS; try clear tm
     intro tm hS
     refine o_nil (hR _ _ ?_)
     clear hR R
     refine wpC.block ?_
     refine c_reg fun R hR => ?_
     refine o_pure hS (.inl rfl) rfl rfl ?_; clear hS; try clear tm
     intro tm hS
     refine o_pure hS (.inl rfl) rfl rfl ?_; clear hS; try clear tm
     intro tm hS
     refine o_nil (hR _ _ ?_)
     clear hR R
     refine c_cond hS rfl (fun hc => ?_) (fun hc => ?_)
     ·replace h11 := iteT hc h11
      refine c_reg1 fun R hR => ?_
      refine o_ldA (k := 2) hS (.inl rfl) rfl rfl rfl (.inl rfl) Fu25 rfl Fs25 rfl ?_; clear hS; try clear tm
      intro tm hS
      obtain ⟨⟨r1, r2⟩, hx5, h11⟩ := bindS h11
      refine o_call hS (.inl rfl) rfl (fun wm' hw1 hw2 => wk12 ho32 (Val.mk Char1 Shape1 Data2) 1  v6 v7 (((hS.sel hw2).ad 5 rfl).ad 4 rfl) hx5) (fun wm' res H hw' hp => ?_)
      obtain ⟨v11, v12, hres, hI⟩ := hp
      replace hres := hres.symm; subst hres
      replace hS : S wm 121 _ H ((81, .tuple #[.agg #[.bool r1.Char, v11, v12], .int .i64 r2]) :: _) ([.own (rI .i64) v11 r1.Shape, .own (rI .i64) v12 r1.Data] ++ _) Fr := hS.after rfl hw' hI
      clear hI hw'
      refine o_pure hS (.inl rfl) rfl rfl ?_; clear hS; try clear tm
      intro tm hS
      refine o_pure hS (.inl rfl) rfl rfl ?_; clear hS; try clear tm
      intro tm hS
      refine o_pure hS (.inl rfl) rfl rfl ?_; clear hS; try clear tm
      intro tm hS
      refine o_st (k := 4) hS (.inl rfl) rfl rfl rfl Fs25 rfl rfl (all_cons rfl (all_cons (hS.one (k := 0) rfl (.inr (.inl rfl))) (all_cons (hS.one (k := 1) rfl (.inr (.inl rfl))) all_nil))) rfl ?_; clear hS; try clear H
      intro H hS
      refine o_pure hS (.inl rfl) rfl rfl ?_; clear hS; try clear tm
      intro tm hS
      refine o_nil (hR _ _ ?_)
      clear hR R
      obtain rfl := Option.some.inj h11
      refine Exists.intro v11 ?_; refine Exists.intro v12 ?_; change S wm 121 _ _ _ _ Fr; exact hS.keep (ka_cons rfl (ka_cons rfl (ka_cons rfl (ka_cons rfl (ka_cons rfl (ka_cons rfl (ka_cons rfl ka_nil))))))) (fun hI => (((((((((hI.pull 10 rfl).pull 10 rfl).pull 10 rfl).pull 4 rfl).pull 4 rfl).pull 8 rfl).pull 8 rfl).pull 8 rfl).take 8))
     ·replace h11 := iteF hc h11
      refine c_reg fun R hR => ?_
      refine o_pure hS (.inl rfl) rfl rfl ?_; clear hS; try clear tm
      intro tm hS
      refine o_pure hS (.inl rfl) rfl rfl ?_; clear hS; try clear tm
      intro tm hS
      refine o_nil (hR _ _ ?_)
      clear hR R
      refine c_cond hS rfl (fun hc => ?_) (fun hc => ?_)
      ·replace h11 := iteT hc h11
       refine c_reg1 fun R hR => ?_
       refine o_ldA (k := 2) hS (.inl rfl) rfl rfl rfl (.inl rfl) Fu25 rfl Fs25 rfl ?_; clear hS; try clear tm
       intro tm hS
       obtain ⟨⟨r3, r4⟩, hx6, h11⟩ := bindS h11
       refine o_call hS (.inl rfl) rfl (fun wm' hw1 hw2 => wk12 ho32 (Val.mk Char1 Shape1 Data2) 0  v6 v7 (((hS.sel hw2).ad 5 rfl).ad 4 rfl) hx6) (fun wm' res H hw' hp => ?_)
       obtain ⟨v13, v14, hres, hI⟩ := hp
       replace hres := hres.symm; subst hres
       replace hS : S wm 121 _ H ((88, .tuple #[.agg #[.bool r3.Char, v13, v14], .int .i64 r4]) :: _) ([.own (rI .i64) v13 r3.Shape, .own (rI .i64) v14 r3.Data] ++ _) Fr := hS.after rfl hw' hI
       clear hI hw'
       refine o_pure hS (.inl rfl) rfl rfl ?_; clear hS; try clear tm
       intro tm hS
       refine o_pure hS (.inl rfl) rfl rfl ?_; clear hS; try clear tm
       intro tm hS
       refine o_pure hS (.inl rfl) rfl rfl ?_; clear hS; try clear tm
       intro tm hS
       refine o_st (k := 4) hS (.inl rfl) rfl rfl rfl Fs25 rfl rfl (all_cons rfl (all_cons (hS.one (k := 0) rfl (.inr (.inl rfl))) (all_cons (hS.one (k := 1) rfl (.inr (.inl rfl))) all_nil))) rfl ?_; clear hS; try clear H
       intro H hS
       refine o_pure hS (.inl rfl) rfl rfl ?_; clear hS; try clear tm
       intro tm hS
       refine o_nil (hR _ _ ?_)
       clear hR R
       obtain rfl := Option.some.inj h11
       refine Exists.intro v13 ?_; refine Exists.intro v14 ?_; change S wm 121 _ _ _ _ Fr; exact hS.keep (ka_cons rfl (ka_cons rfl (ka_cons rfl (ka_cons rfl (ka_cons rfl (ka_cons rfl (ka_cons rfl ka_nil))))))) (fun hI => (((((((((hI.pull 10 rfl).pull 10 rfl).pull 10 rfl).pull 4 rfl).pull 4 rfl).pull 8 rfl).pull 8 rfl).pull 8 rfl).take 8))
      ·replace h11 := iteF hc h11
       refine c_reg1 fun R hR => ?_
       refine o_ldA (k := 2) hS (.inl rfl) rfl rfl rfl (.inl rfl) Fu25 rfl Fs25 rfl ?_; clear hS; try clear tm
       intro tm hS
       obtain ⟨⟨r5, r6⟩, hx7, h11⟩ := bindS h11
       refine o_call hS (.inl rfl) rfl (fun wm' hw1 hw2 => wk14  (Val.mk Char1 Shape1 Data2)  v6 v7 (((hS.sel hw2).ad 5 rfl).ad 4 rfl) hx7) (fun wm' res H hw' hp => ?_)
       obtain ⟨v15, v16, hres, hI⟩ := hp
       replace hres := hres.symm; subst hres
       replace hS : S wm 121 _ H ((74, .tuple #[.agg #[.bool r5.Char, v15, v16], .int .i64 r6]) :: _) ([.own (rI .i64) v15 r5.Shape, .own (rI .i64) v16 r5.Data] ++ _) Fr := hS.after rfl hw' hI
       clear hI hw'
       refine o_pure hS (.inl rfl) rfl rfl ?_; clear hS; try clear tm
       intro tm hS
       refine o_pure hS (.inl rfl) rfl rfl ?_; clear hS; try clear tm
       intro tm hS
       refine o_pure hS (.inl rfl) rfl rfl ?_; clear hS; try clear tm
       intro tm hS
       refine o_st (k := 4) hS (.inl rfl) rfl rfl rfl Fs25 rfl rfl (all_cons rfl (all_cons (hS.one (k := 0) rfl (.inr (.inl rfl))) (all_cons (hS.one (k := 1) rfl (.inr (.inl rfl))) all_nil))) rfl ?_; clear hS; try clear H
       intro H hS
       refine o_pure hS (.inl rfl) rfl rfl ?_; clear hS; try clear tm
       intro tm hS
       refine o_nil (hR _ _ ?_)
       clear hR R
       obtain rfl := Option.some.inj h11
       refine Exists.intro v15 ?_; refine Exists.intro v16 ?_; change S wm 121 _ _ _ _ Fr; exact hS.keep (ka_cons rfl (ka_cons rfl (ka_cons rfl (ka_cons rfl (ka_cons rfl (ka_cons rfl (ka_cons rfl ka_nil))))))) (fun hI => (((((((((hI.pull 10 rfl).pull 10 rfl).pull 10 rfl).pull 4 rfl).pull 4 rfl).pull 8 rfl).pull 8 rfl).pull 8 rfl).take 8))
    intro tm H hS
    obtain ⟨e1, Char2, Shape2, Data3⟩ := k3
    obtain ⟨v9, v10, hS⟩ := hS
    change S wm 121 tm H [(3, v1), (11, .pointer (some ⟨b1, 0, none⟩)), (13, .pointer (some ⟨b2, 0, none⟩)), (14, .pointer (some ⟨b3, 0, none⟩)), (15, .int .i64 i2), (16, .int .i64 e1), (17, .string y2)] [.box b1 [.bool char1, v2, v3], .box b2 [.bool Char2, v9, v10], .box b3 [.int .i64 Turn1, .bool Flip1], .own (rI .i64) v9 Shape2, .own (rI .i64) v10 Data3, .fz (rI .u8) v1 l1, .fz (rI .i64) v2 ([(IntKind.i64.wrap (Int.tmod rows1 21)), (IntKind.i64.wrap (Int.tmod cols1 21))]), .fz (rI .i64) v3 Data1] Fr at hS
    refine c_reg fun R hR => ?_
    refine o_pure hS (.inl rfl) rfl rfl ?_; clear hS; try clear tm
    intro tm hS
    obtain ⟨⟨r7, r8⟩, hx8, h9⟩ := bindS h9
    refine o_call hS (.inl rfl) rfl (fun wm' hw1 hw2 => wk26  y2   (hS.sel hw2) hx8) (fun wm' res H hw' hp => ?_)
    obtain ⟨hres, hI⟩ := hp
    replace hres := hres.symm; subst hres
    replace hS : S wm 121 _ H ((93, .tuple #[.agg #[.int .i64 r7.Turn, .bool r7.Flip], .bool r8]) :: _) ([] ++ _) Fr := hS.after rfl hw' hI
    clear hI hw'
    refine o_pure hS (.inl rfl) rfl rfl ?_; clear hS; try clear tm
    intro tm hS
    refine o_pure hS (.inl rfl) rfl rfl ?_; clear hS; try clear tm
    intro tm hS
    refine o_pure hS (.inl rfl) rfl rfl ?_; clear hS; try clear tm
    intro tm hS
    refine o_alloc hS (.inl rfl) rfl Fz51 (by decide) ?_; clear hS; try clear tm H
    intro b4 tm H hS
    refine o_st (k := 0) hS (.inl rfl) rfl rfl rfl Fs51 rfl rfl (all_cons rfl (all_cons rfl all_nil)) rfl ?_; clear hS; try clear H
    intro H hS
    refine o_pure hS (.inl rfl) rfl rfl ?_; clear hS; try clear tm
    intro tm hS
    refine o_nil (hR _ _ ?_)
    clear hR R
    refine c_reg fun R hR => ?_
    refine o_ldA (k := 3) hS (.inl rfl) rfl rfl rfl (.inl rfl) Fu51 rfl Fs51 rfl ?_; clear hS; try clear tm
    intro tm hS
    refine o_ldA (k := 0) hS (.inl rfl) rfl rfl rfl (.inl rfl) Fu51 rfl Fs51 rfl ?_; clear hS; try clear tm
    intro tm hS
    obtain ⟨r9, hx9, h9⟩ := bindS h9
    refine o_call hS (.inl rfl) rfl (fun wm' hw1 hw2 => wk27  (Sym.mk Turn1 Flip1) r7   (hS.sel hw2) hx9) (fun wm' res H hw' hp => ?_)
    obtain ⟨hres, hI⟩ := hp
    replace hres := hres.symm; subst hres
    replace hS : S wm 121 _ H ((98, .agg #[.int .i64 r9.Turn, .bool r9.Flip]) :: _) ([] ++ _) Fr := hS.after rfl hw' hI
    clear hI hw'
    refine o_st (k := 3) hS (.inl rfl) rfl rfl rfl Fs51 rfl rfl (all_cons rfl (all_cons rfl all_nil)) rfl ?_; clear hS; try clear H
    intro H hS
    refine o_nil (hR _ _ ?_)
    clear hR R
    refine c_reg fun R hR => ?_
    refine o_pure hS (.inl rfl) rfl rfl ?_; clear hS; try clear tm
    intro tm hS
    refine o_pure hS (.inl rfl) rfl rfl ?_; clear hS; try clear tm
    intro tm hS
    refine o_pure hS (.inl rfl) rfl rfl ?_; clear hS; try clear tm
    intro tm hS
    obtain ⟨c3, hc1⟩ : ∃ x : Bool, x = ((e1 != 0) || (!r8)) := ⟨_, rfl⟩
    refine o_cutN 3 (J := fun tm H => S wm 121 tm H [(104, .bool c3), (3, v1), (11, .pointer (some ⟨b1, 0, none⟩)), (13, .pointer (some ⟨b2, 0, none⟩)), (14, .pointer (some ⟨b3, 0, none⟩)), (15, .int .i64 i2)] [.box b1 [.bool char1, v2, v3], .box b2 [.bool Char2, v9, v10], .box b3 [.int .i64 r9.Turn, .bool r9.Flip], .own (rI .i64) v9 Shape2, .own (rI .i64) v10 Data3, .fz (rI .u8) v1 l1, .fz (rI .i64) v2 ([(IntKind.i64.wrap (Int.tmod rows1 21)), (IntKind.i64.wrap (Int.tmod cols1 21))]), .fz (rI .i64) v3 Data1] Fr) ?_ ?_
    ·rcases Bool.eq_false_or_eq_true (e1 != 0) with hg1 | hg1
     ·refine o_skip hS rfl rfl rfl hg1 ?_; clear hS; try clear tm
      intro tm hS
      refine o_skip hS rfl rfl rfl hg1 ?_; clear hS; try clear tm
      intro tm hS
      refine o_pickT hS (.inl rfl) rfl rfl hg1 rfl ?_; clear hS; try clear tm
      intro tm hS
      have hc1 : c3 = true := hc1.trans (by rw [hg1]; first | rfl | simp)
      subst hc1
      exact o_nil (hS.keep (ka_cons rfl (ka_cons rfl (ka_cons rfl (ka_cons rfl (ka_cons rfl (ka_cons rfl ka_nil)))))) (fun hI => (hI.sub (sd (sc (sc (sc (sc (sc (sc (sc (sc sn))))))))))))
     ·refine o_pure hS (.inr ⟨_, _, _, _, rfl, rfl, rfl, hg1⟩) rfl rfl ?_; clear hS; try clear tm
      intro tm hS
      refine o_pure hS (.inr ⟨_, _, _, _, rfl, rfl, rfl, hg1⟩) rfl rfl ?_; clear hS; try clear tm
      intro tm hS
      refine o_pickF hS (.inl rfl) rfl rfl hg1 rfl ?_; clear hS; try clear tm
      intro tm hS
      have hc1 : c3 = (!r8) := hc1.trans (by rw [hg1]; first | rfl | simp)
      subst hc1
      exact o_nil (hS.keep (ka_cons rfl (ka_cons rfl (ka_cons rfl (ka_cons rfl (ka_cons rfl (ka_cons rfl ka_nil)))))) (fun hI => (hI.sub (sd (sc (sc (sc (sc (sc (sc (sc (sc sn))))))))))))
    intro tm H hS
    subst hc1
    refine o_nil (hR _ _ ?_)
    clear hR R
    refine c_cond hS rfl (fun hc => ?_) (fun hc => ?_)
    ·replace h9 := iteT hc h9
     refine c_reg fun R hR => ?_
     refine o_pure hS (.inl rfl) rfl rfl ?_; clear hS; try clear tm
     intro tm hS
     refine o_nil (hR _ _ ?_)
     clear hR R
     refine wpC.ret ?_
     obtain rfl := Option.some.inj h9
     obtain rfl := hq9 _ rfl
     refine And.intro rfl ?_
     obtain rfl := leave h0
     refine Exists.intro _ (And.intro (rs_tmp hS rfl rs_nil) ?_)
     have hI := hS.inv
     exact ⟨rfl, (hI.sub sn)⟩
    ·replace h9 := iteF hc h9
     refine wpC.skip ?_
     refine c_reg1 fun R hR => ?_
     refine o_pure hS (.inl rfl) rfl rfl ?_; clear hS; try clear tm
     intro tm hS
     refine o_pure hS (.inl rfl) rfl rfl ?_; clear hS; try clear tm
     intro tm hS
     refine o_pure hS (.inl rfl) rfl rfl ?_; clear hS; try clear tm
     intro tm hS
     refine o_nil (hR _ _ ?_)
     clear hR R
     obtain rfl := Option.some.inj h9
     replace hS := hS.frz (k := 3) rfl
     replace hS := hS.frz (k := 4) rfl
     refine ⟨_, rfl, ?_⟩
     refine Exists.intro v9 ?_; refine Exists.intro v10 ?_; change S wm 121 _ _ _ _ Fr; exact hS.keep (ka_cons rfl (ka_cons rfl (ka_cons rfl (ka_cons rfl (ka_cons rfl ka_nil))))) (fun hI => (hI.sub (sc (sc (sc (sc (sc (sc (sc (sc sn))))))))))
   ·replace h9 := iteF hc h9
    refine wpC.exit ?_
    refine seqX ?_
    obtain rfl := Option.some.inj h9
    obtain rfl := hq9 _ rfl
    refine And.intro rfl (blk_eq ?_)
    replace h0 := joinN h0
    refine c_reg fun R hR => ?_
    refine o_ldA (k := 2) hS (.inl rfl) rfl rfl rfl (.inl rfl) Fu51 rfl Fs51 rfl ?_; clear hS; try clear tm
    intro tm hS
    refine o_ldA (k := 0) hS (.inl rfl) rfl rfl rfl (.inl rfl) Fu25 rfl Fs25 rfl ?_; clear hS; try clear tm
    intro tm hS
    obtain ⟨⟨r10, r11⟩, hx10, h0⟩ := bindS h0
    refine o_call hS (.inl rfl) rfl (fun wm' hw1 hw2 => wk28  (Sym.mk Turn1 Flip1) (Val.mk char1 ([(IntKind.i64.wrap (Int.tmod rows1 21)), (IntKind.i64.wrap (Int.tmod cols1 21))]) Data1)  v2 v3 (((hS.sel hw2).ad 7 rfl).ad 6 rfl) hx10) (fun wm' res H hw' hp => ?_)
    obtain ⟨v17, v18, hres, hI⟩ := hp
    replace hres := hres.symm; subst hres
    replace hS : S wm 121 _ H ((108, .tuple #[.agg #[.bool r10.Char, v17, v18], .int .i64 r11]) :: _) ([.own (rI .i64) v17 r10.Shape, .own (rI .i64) v18 r10.Data] ++ _) Fr := hS.after rfl hw' hI
    clear hI hw'
    refine o_pure hS (.inl rfl) rfl rfl ?_; clear hS; try clear tm
    intro tm hS
    refine o_pure hS (.inl rfl) rfl rfl ?_; clear hS; try clear tm
    intro tm hS
    refine o_pure hS (.inl rfl) rfl rfl ?_; clear hS; try clear tm
    intro tm hS
    refine o_alloc hS (.inl rfl) rfl Fz25 (by decide) ?_; clear hS; try clear tm H
    intro b5 tm H hS
    refine o_st (k := 0) hS (.inl rfl) rfl rfl rfl Fs25 rfl rfl (all_cons rfl (all_cons (hS.one (k := 1) rfl (.inr (.inl rfl))) (all_cons (hS.one (k := 2) rfl (.inr (.inl rfl))) all_nil))) rfl ?_; clear hS; try clear H
    intro H hS
    refine o_pure hS (.inl rfl) rfl rfl ?_; clear hS; try clear tm
    intro tm hS
    refine o_nil (hR _ _ ?_)
    clear hR R
    refine c_reg fun R hR => ?_
    refine o_pure hS (.inl rfl) rfl rfl ?_; clear hS; try clear tm
    intro tm hS
    refine o_pure hS (.inl rfl) rfl rfl ?_; clear hS; try clear tm
    intro tm hS
    refine o_pure hS (.inl rfl) rfl rfl ?_; clear hS; try clear tm
    intro tm hS
    obtain ⟨c4, hc2, h0⟩ := bindS h0
    refine o_cutN 4 (J := fun tm H => S wm 121 tm H [(117, .bool c4)] [] Fr) ?_ ?_
    ·rcases Bool.eq_false_or_eq_true (r11 == 0) with hg2 | hg2
     ·replace hc2 := iteT hg2 hc2
      refine o_ldA (k := 0) hS (.inr ⟨_, _, _, _, rfl, rfl, rfl, hg2⟩) rfl rfl rfl (.inl rfl) Fu25 rfl Fs25 rfl ?_; clear hS; try clear tm
      intro tm hS
      refine o_ldA (k := 4) hS (.inr ⟨_, _, _, _, rfl, rfl, rfl, hg2⟩) rfl rfl rfl (.inl rfl) Fu25 rfl Fs25 rfl ?_; clear hS; try clear tm
      intro tm hS
      obtain ⟨r12, hx11, hc2⟩ := bindS hc2
      refine o_call (Pc := fun _ res H => res = .bool r12 ∧ Kn wm H ([.box b5 [.bool r10.Char, v17, v18], .own (rI .i64) v17 r10.Shape, .own (rI .i64) v18 r10.Data, .box b1 [.bool char1, v2, v3], .box b2 [.bool Char1, v6, v7], .box b3 [.int .i64 Turn1, .bool Flip1], .fz (rI .i64) v6 Shape1, .fz (rI .i64) v7 Data2, .fz (rI .u8) v1 l1, .fz (rI .i64) v2 ([(IntKind.i64.wrap (Int.tmod rows1 21)), (IntKind.i64.wrap (Int.tmod cols1 21))]), .fz (rI .i64) v3 Data1]) Fr) hS (.inr ⟨_, _, _, _, rfl, rfl, rfl, hg2⟩) rfl (fun wm' hw1 hw2 => by
       obtain ⟨F2, k1, k2⟩ := hS.inv.lend (La := [.fz (rI .i64) v17 r10.Shape, .fz (rI .i64) v18 r10.Data, .fz (rI .i64) v6 Shape1, .fz (rI .i64) v7 Data2]) (List.forall_mem_cons.mpr ⟨(.inr ⟨_, _, _, _, rfl, .inl (List.mem_of_getElem? (i := 1) rfl)⟩), (List.forall_mem_cons.mpr ⟨(.inr ⟨_, _, _, _, rfl, .inl (List.mem_of_getElem? (i := 2) rfl)⟩), (List.forall_mem_cons.mpr ⟨(.inl ⟨rfl, List.mem_of_getElem? (i := 6) rfl⟩), (List.forall_mem_cons.mpr ⟨(.inl ⟨rfl, List.mem_of_getElem? (i := 7) rfl⟩), (fun _ h => by cases h)⟩)⟩)⟩)⟩) hw1 hw2
       exact (wk24  r10 (Val.mk Char1 Shape1 Data2)  v17 v18 v6 v7 k1 hx11).mono fun res H2 ⟨q1, q2⟩ => ⟨q1, k2 _ q2⟩) (fun wm' res H hw' hp => ?_)
      obtain ⟨hres, hI⟩ := hp
      replace hres := hres.symm; subst hres
      replace hS : S wm 121 _ H ((116, .bool r12) :: _) ([.box b5 [.bool r10.Char, v17, v18], .own (rI .i64) v17 r10.Shape, .own (rI .i64) v18 r10.Data, .box b1 [.bool char1, v2, v3], .box b2 [.bool Char1, v6, v7], .box b3 [.int .i64 Turn1, .bool Flip1], .fz (rI .i64) v6 Shape1, .fz (rI .i64) v7 Data2, .fz (rI .u8) v1 l1, .fz (rI .i64) v2 ([(IntKind.i64.wrap (Int.tmod rows1 21)), (IntKind.i64.wrap (Int.tmod cols1 21))]), .fz (rI .i64) v3 Data1]) Fr := (hS.put rfl _).withK hI
      clear hI hw'
      refine o_pickT hS (.inl rfl) rfl rfl hg2 rfl ?_; clear hS; try clear tm
      intro tm hS
      obtain rfl := Option.some.inj hc2
      exact o_nil (hS.keep (ka_cons rfl ka_nil) (fun hI => (hI.sub sn)))
     ·replace hc2 := iteF hg2 hc2
      refine o_skip hS rfl rfl rfl hg2 ?_; clear hS; try clear tm
      intro tm hS
      refine o_skip hS rfl rfl rfl hg2 ?_; clear hS; try clear tm
      intro tm hS
      refine o_skip hS rfl rfl rfl hg2 ?_; clear hS; try clear tm
      intro tm hS
      refine o_pickF hS (.inl rfl) rfl rfl hg2 rfl ?_; clear hS; try clear tm
      intro tm hS
      obtain rfl := Option.some.inj hc2
      exact o_nil (hS.keep (ka_cons rfl ka_nil) (fun hI => (hI.sub sn)))
    intro tm H hS
    refine o_pure hS (.inl rfl) rfl rfl ?_; clear hS; try clear tm
    intro tm hS
    obtain ⟨c5, hc3⟩ : ∃ x : Bool, x = (c4 && true) := ⟨_, rfl⟩
    refine o_cutN 2 (J := fun tm H => S wm 121 tm H [(120, .bool c5)] [] Fr) ?_ ?_
    ·rcases Bool.eq_false_or_eq_true c4 with hg3 | hg3
     ·refine o_call hS (.inr ⟨_, _, _, _, rfl, rfl, rfl, hg3⟩) rfl (fun wm' hw1 hw2 => wpF.told ho17 (Q := fun v H' => v = .bool true ∧ H' = H) ⟨rfl, rfl⟩) (fun wm' res H hw' hp => ?_)
      obtain ⟨rfl, rfl⟩ := hp
      replace hS := hS.put (d := 119) rfl (.bool true)
      clear hw'
      refine o_pickT hS (.inl rfl) rfl rfl hg3 rfl ?_; clear hS; try clear tm
      intro tm hS
      have hc3 : c5 = true := hc3.trans (by rw [hg3]; first | rfl | simp)
      subst hc3
      exact o_nil (hS.keep (ka_cons rfl ka_nil) (fun hI => (hI.sub sn)))
     ·refine o_skip hS rfl rfl rfl hg3 ?_; clear hS; try clear tm
      intro tm hS
      refine o_pickF hS (.inl rfl) rfl rfl hg3 rfl ?_; clear hS; try clear tm
      intro tm hS
      have hc3 : c5 = false := hc3.trans (by rw [hg3]; first | rfl | simp)
      subst hc3
      exact o_nil (hS.keep (ka_cons rfl ka_nil) (fun hI => (hI.sub sn)))
    intro tm H hS
    subst hc3
    refine o_pure hS (.inl rfl) rfl rfl ?_; clear hS; try clear tm
    intro tm hS
    refine o_nil (hR _ _ ?_)
    clear hR R
    refine wpC.ret ?_
    obtain rfl := Option.some.inj h0
    refine Exists.intro _ (And.intro (rs_tmp hS rfl rs_nil) ?_)
    have hI := hS.inv
    exact ⟨rfl, (hI.sub sn)⟩
end Go.Proofs.Yteoojnahehgakaa.turnPlane
