/- OverAxes: walks of the code: the run of each function comes to what its plain function says. -/
import Derived.Test.YtblgdjpeedgnoaaWOverAxesb
set_option maxHeartbeats 4000000
set_option linter.unusedVariables false
set_option linter.unusedSimpArgs false
set_option maxRecDepth 100000
open Go Go.Am Go.Proofs
namespace Go.Proofs.Ytblgdjpeedgnoaa.overAxes
variable {ora : FuncId → Bool}
theorem wk3 {wm : Nat} {H : AHeap} {Fr : List Ent} (ho9 : ora 9 = true) (ho100 : ora 100 = false) (v1 : Val) (which1 : Int) (axes1 : (List Int))  (v2 : Value) (v3 : Value) (v4 : Value) (hI : Kn wm H [.fz (rI .i64) v2 v1.Shape, .fz (rI .i64) v3 v1.Data, .fz (rI .u8) v4 axes1] Fr) {r : Bool} (h0 : M.anamnesislaw12_OverAxes v1 which1 axes1 = some r) :
  wpF Try.prog ora wm 3 [.agg #[.bool v1.Char, v2, v3], .int .u8 which1, v4] H (fun res H => res = .bool r ∧ Kn wm H [] Fr) := by
 unfold M.anamnesislaw12_OverAxes at h0
 refine f_enter (n := 121) Try.func3 rfl (by simp) hI rfl rfl rfl fun tm hS => ?_
 clear hI
 refine c_reg fun R hR => ?_
 refine o_box hS (.inl rfl) rfl rfl rfl (all_cons rfl (all_cons (hS.one (k := 0) rfl (.inl rfl)) (all_cons (hS.one (k := 1) rfl (.inl rfl)) all_nil))) ?_; clear hS; try clear tm H
 intro b1 tm H hS
 refine o_pure hS (.inl rfl) rfl rfl ?_; clear hS; try clear tm
 intro tm hS
 refine o_nil (hR _ _ ?_)
 clear hR R
 refine c_seqS ?_
 refine c_reg fun R hR => ?_
 refine o_pure hS (.inl rfl) rfl rfl ?_; clear hS; try clear tm
 intro tm hS
 refine o_ld1 (k := 0) hS (.inl rfl) rfl rfl rfl (.inl rfl) Fu23 rfl rfl ?_; clear hS; try clear tm
 intro tm hS
 refine o_len (k := 2) (r := (rI .i64)) hS (.inl rfl) rfl rfl rfl (.inl rfl) Fu23 rfl ?_; clear hS; try clear tm
 intro tm hS
 refine o_pure hS (.inl rfl) rfl rfl ?_; clear hS; try clear tm
 intro tm hS
 refine o_pure hS (.inl rfl) rfl rfl ?_; clear hS; try clear tm
 intro tm hS
 obtain ⟨c1, hc1⟩ : ∃ x : Bool, x = ((decide ((v1.Data.length : Int) > 300)) || (decide ((v1.Shape.length : Int) > 10))) := ⟨_, rfl⟩
 refine o_cutN 5 (J := fun tm H => S wm 121 tm H [(27, .bool c1), (1, .int .u8 which1), (2, v4), (3, .pointer (some ⟨b1, 0, none⟩))] [.box b1 [.bool v1.Char, v2, v3], .fz (rI .i64) v2 v1.Shape, .fz (rI .i64) v3 v1.Data, .fz (rI .u8) v4 axes1] Fr) ?_ ?_
 ·rcases Bool.eq_false_or_eq_true (decide ((v1.Data.length : Int) > 300)) with hg1 | hg1
  ·refine o_skip hS rfl rfl rfl hg1 ?_; clear hS; try clear tm
   intro tm hS
   refine o_skip hS rfl rfl rfl hg1 ?_; clear hS; try clear tm
   intro tm hS
   refine o_skip hS rfl rfl rfl hg1 ?_; clear hS; try clear tm
   intro tm hS
   refine o_skip hS rfl rfl rfl hg1 ?_; clear hS; try clear tm
   intro tm hS
   refine o_pickT hS (.inl rfl) rfl rfl hg1 rfl ?_; clear hS; try clear tm
   intro tm hS
   have hc1 : c1 = true := hc1.trans (by rw [hg1]; first | rfl | simp)
   subst hc1
   exact o_nil (hS.keep (ka_cons rfl (ka_cons rfl (ka_cons rfl (ka_cons rfl ka_nil)))) (fun hI => (hI.sub (sc (sc (sc (sc sn)))))))
  ·refine o_pure hS (.inr ⟨_, _, _, _, rfl, rfl, rfl, hg1⟩) rfl rfl ?_; clear hS; try clear tm
   intro tm hS
   refine o_ld1 (k := 0) hS (.inr ⟨_, _, _, _, rfl, rfl, rfl, hg1⟩) rfl rfl rfl (.inl rfl) Fu22 rfl rfl ?_; clear hS; try clear tm
   intro tm hS
   refine o_len (k := 1) (r := (rI .i64)) hS (.inr ⟨_, _, _, _, rfl, rfl, rfl, hg1⟩) rfl rfl rfl (.inl rfl) Fu22 rfl ?_; clear hS; try clear tm
   intro tm hS
   refine o_pure hS (.inr ⟨_, _, _, _, rfl, rfl, rfl, hg1⟩) rfl rfl ?_; clear hS; try clear tm
   intro tm hS
   refine o_pickF hS (.inl rfl) rfl rfl hg1 rfl ?_; clear hS; try clear tm
   intro tm hS
   have hc1 : c1 = (decide ((v1.Shape.length : Int) > 10)) := hc1.trans (by rw [hg1]; first | rfl | simp)
   subst hc1
   exact o_nil (hS.keep (ka_cons rfl (ka_cons rfl (ka_cons rfl (ka_cons rfl ka_nil)))) (fun hI => (hI.sub (sc (sc (sc (sc sn)))))))
 intro tm H hS
 subst hc1
 refine o_pure hS (.inl rfl) rfl rfl ?_; clear hS; try clear tm
 intro tm hS
 obtain ⟨c2, hc2⟩ : ∃ x : Bool, x = (((decide ((v1.Data.length : Int) > 300)) || (decide ((v1.Shape.length : Int) > 10))) || v1.Char) := ⟨_, rfl⟩
 refine o_cutN 3 (J := fun tm H => S wm 121 tm H [(31, .bool c2), (1, .int .u8 which1), (2, v4), (3, .pointer (some ⟨b1, 0, none⟩))] [.box b1 [.bool v1.Char, v2, v3], .fz (rI .i64) v2 v1.Shape, .fz (rI .i64) v3 v1.Data, .fz (rI .u8) v4 axes1] Fr) ?_ ?_
 ·rcases Bool.eq_false_or_eq_true ((decide ((v1.Data.length : Int) > 300)) || (decide ((v1.Shape.length : Int) > 10))) with hg2 | hg2
  ·refine o_skip hS rfl rfl rfl hg2 ?_; clear hS; try clear tm
   intro tm hS
   refine o_skip hS rfl rfl rfl hg2 ?_; clear hS; try clear tm
   intro tm hS
   refine o_pickT hS (.inl rfl) rfl rfl hg2 rfl ?_; clear hS; try clear tm
   intro tm hS
   have hc2 : c2 = true := hc2.trans (by rw [hg2]; first | rfl | simp)
   subst hc2
   exact o_nil (hS.keep (ka_cons rfl (ka_cons rfl (ka_cons rfl (ka_cons rfl ka_nil)))) (fun hI => (hI.sub (sc (sc (sc (sc sn)))))))
  ·refine o_pure hS (.inr ⟨_, _, _, _, rfl, rfl, rfl, hg2⟩) rfl rfl ?_; clear hS; try clear tm
   intro tm hS
   refine o_ld1 (k := 0) hS (.inr ⟨_, _, _, _, rfl, rfl, rfl, hg2⟩) rfl rfl rfl (.inl rfl) Fu4 rfl rfl ?_; clear hS; try clear tm
   intro tm hS
   refine o_pickF hS (.inl rfl) rfl rfl hg2 rfl ?_; clear hS; try clear tm
   intro tm hS
   have hc2 : c2 = v1.Char := hc2.trans (by rw [hg2]; first | rfl | simp)
   subst hc2
   exact o_nil (hS.keep (ka_cons rfl (ka_cons rfl (ka_cons rfl (ka_cons rfl ka_nil)))) (fun hI => (hI.sub (sc (sc (sc (sc sn)))))))
 intro tm H hS
 subst hc2
 refine o_nil (hR _ _ ?_)
 clear hR R
 refine c_cond hS rfl (fun hc => ?_) (fun hc => ?_)
 ·replace h0 := iteT hc h0
  refine c_reg fun R hR => ?_
  refine o_call hS (.inl rfl) rfl (fun wm' hw1 hw2 => wpF.told ho9 (Q := fun v H' => v = .bool true ∧ H' = H) ⟨rfl, rfl⟩) (fun wm' res H hw' hp => ?_)
  obtain ⟨rfl, rfl⟩ := hp
  replace hS := hS.put (d := 32) rfl (.bool true)
  clear hw'
  refine o_pure hS (.inl rfl) rfl rfl ?_; clear hS; try clear tm
  intro tm hS
  refine o_nil (hR _ _ ?_)
  clear hR R
  refine wpC.ret ?_
  obtain rfl := Option.some.inj h0
  refine Exists.intro _ (And.intro (rs_tmp hS rfl rs_nil) ?_)
  have hI := hS.inv
  exact ⟨rfl, (hI.sub sn)⟩
 ·replace h0 := iteF hc h0
  refine wpC.skip ?_
  refine c_reg fun R hR => ?_
  refine o_lit (r := rS) (l := [str_226_140_136, str_226_140_138, str_226_137_160]) hS (.inl rfl) rfl Fl28 rfl rfl rfl (.cons rfl (.cons rfl (.cons rfl .nil))) rfl rfl (ri_1 (rd_flat fun _ => rfl) (ri_1 (rd_flat fun _ => rfl) (ri_1 (rd_flat fun _ => rfl) ri_nil))) rfl ?_; clear hS; try clear tm H
  intro v5 tm H hS
  refine o_pure hS (.inl rfl) rfl rfl ?_; clear hS; try clear tm
  intro tm hS
  refine o_pure hS (.inl rfl) rfl rfl ?_; clear hS; try clear tm
  intro tm hS
  obtain ⟨y1, hx1, h0⟩ := bindS h0
  refine o_ixA (k := 0) (r := rS) hS (.inl rfl) rfl rfl rfl rfl (.inr (.inr rfl)) Fu28 Fs9 hx1 ?_; clear hS; try clear tm
  intro tm hS
  refine o_ldF (r := rS) (k := 0) hS (.inl rfl) rfl rfl rfl (.inr (.inr rfl)) hx1 Fu9 rfl flat_S rfl ?_; clear hS; try clear tm
  intro tm hS
  refine o_pure hS (.inl rfl) rfl rfl ?_; clear hS; try clear tm
  intro tm hS
  refine o_nil (hR _ _ ?_)
  clear hR R
  refine c_reg fun R hR => ?_
  refine o_pure hS (.inl rfl) rfl rfl ?_; clear hS; try clear tm
  intro tm hS
  refine o_ld1 (k := 1) hS (.inl rfl) rfl rfl rfl (.inl rfl) Fu22 rfl rfl ?_; clear hS; try clear tm
  intro tm hS
  refine o_build hS (.inl rfl) rfl Fb25 rfl (.cons (cells_one (hS.one (k := 2) rfl (.inl rfl))) .nil) rfl ?_; clear hS; try clear tm
  intro tm hS
  refine o_alloc hS (.inl rfl) rfl Fz25 (by decide) ?_; clear hS; try clear tm H
  intro b2 tm H hS
  refine o_st (k := 0) hS (.inl rfl) rfl rfl rfl Fs25 rfl rfl (all_cons rfl (all_cons (hS.one (k := 3) rfl (.inl rfl)) (all_cons rfl all_nil))) rfl ?_; clear hS; try clear H
  intro H hS
  refine o_nil (hR _ _ ?_)
  clear hR R
  refine c_seqS ?_
  refine c_reg fun R hR => ?_
  refine o_pure hS (.inl rfl) rfl rfl ?_; clear hS; try clear tm
  intro tm hS
  refine o_nil (hR _ _ ?_)
  clear hR R
  obtain ⟨k1, hw1, h0⟩ := bindS h0
  refine wpC.block ?_
  replace hS := hS.nilOwn (rI .i64)
  refine c_loop (I := fun (s : Int × (List Int)) tm H => match (generalizing := false) s with | (i1, Data1) => ∃ v6, S wm 121 tm H [(1, .int .u8 which1), (2, v4), (3, .pointer (some ⟨b1, 0, none⟩)), (7, .string y1), (8, .pointer (some ⟨b2, 0, none⟩)), (9, .int .i64 i1)] [.box b1 [.bool v1.Char, v2, v3], .box b2 [.bool false, v2, v6], .own (rI .i64) v6 Data1, .fz (rI .u8) v4 axes1, .fz (rI .i64) v2 v1.Shape, .fz (rI .i64) v3 v1.Data] Fr) hw1 (by refine Exists.intro (.slice none 0 0) ?_; change S wm 121 _ _ _ _ Fr; exact hS.keep (ka_cons rfl (ka_cons rfl (ka_cons rfl (ka_cons rfl (ka_cons rfl (ka_cons rfl ka_nil)))))) (fun hI => (((((((hI.pull 5 rfl).pull 5 rfl).pull 6 rfl).pull 3 rfl).pull 4 rfl).pull 6 rfl).take 6))) ?_
  clear hS
  intro s1 tm H c3 hS h3 hq3
  obtain ⟨i1, Data1⟩ := s1
  obtain ⟨v6, hS⟩ := hS
  change S wm 121 tm H [(1, .int .u8 which1), (2, v4), (3, .pointer (some ⟨b1, 0, none⟩)), (7, .string y1), (8, .pointer (some ⟨b2, 0, none⟩)), (9, .int .i64 i1)] [.box b1 [.bool v1.Char, v2, v3], .box b2 [.bool false, v2, v6], .own (rI .i64) v6 Data1, .fz (rI .u8) v4 axes1, .fz (rI .i64) v2 v1.Shape, .fz (rI .i64) v3 v1.Data] Fr at hS
  refine c_seqS ?_
  refine c_reg fun R hR => ?_
  refine o_pure hS (.inl rfl) rfl rfl ?_; clear hS; try clear tm
  intro tm hS
  refine o_pure hS (.inl rfl) rfl rfl ?_; clear hS; try clear tm
  intro tm hS
  refine o_ld1 (k := 0) hS (.inl rfl) rfl rfl rfl (.inl rfl) Fu23 rfl rfl ?_; clear hS; try clear tm
  intro tm hS
  refine o_len (k := 5) (r := (rI .i64)) hS (.inl rfl) rfl rfl rfl (.inl rfl) Fu23 rfl ?_; clear hS; try clear tm
  intro tm hS
  refine o_pure hS (.inl rfl) rfl rfl ?_; clear hS; try clear tm
  intro tm hS
  refine o_nil (hR _ _ ?_)
  clear hR R
  refine c_cond hS rfl (fun hc => ?_) (fun hc => ?_)
  ·replace h3 := iteT hc h3
   refine wpC.skip ?_
   refine c_seqS ?_
   refine wpC.block ?_
   refine c_reg fun R hR => ?_
   refine o_pure hS (.inl rfl) rfl rfl ?_; clear hS; try clear tm
   intro tm hS
   refine o_ld1 (k := 0) hS (.inl rfl) rfl rfl rfl (.inl rfl) Fu23 rfl rfl ?_; clear hS; try clear tm
   intro tm hS
   refine o_pure hS (.inl rfl) rfl rfl ?_; clear hS; try clear tm
   intro tm hS
   obtain ⟨y2, hx2, h3⟩ := bindS h3
   refine o_ixA (k := 5) (r := (rI .i64)) hS (.inl rfl) rfl rfl rfl rfl (.inl rfl) Fu23 Fs2 hx2 ?_; clear hS; try clear tm
   intro tm hS
   refine o_ldF (r := (rI .i64)) (k := 5) hS (.inl rfl) rfl rfl rfl (.inl rfl) hx2 Fu2 rfl (flat_I _) rfl ?_; clear hS; try clear tm
   intro tm hS
   refine o_pure hS (.inl rfl) rfl rfl ?_; clear hS; try clear tm
   intro tm hS
   refine o_nil (hR _ _ ?_)
   clear hR R
   obtain ⟨n1, h10, h3⟩ := bindS h3
   refine c_seqJ (J := fun tm H => (match (generalizing := false) n1 with | n1 => S wm 121 tm H [(1, .int .u8 which1), (2, v4), (3, .pointer (some ⟨b1, 0, none⟩)), (7, .string y1), (8, .pointer (some ⟨b2, 0, none⟩)), (9, .int .i64 i1), (10, .int .i64 n1)] [.box b1 [.bool v1.Char, v2, v3], .box b2 [.bool false, v2, v6], .fz (rI .u8) v4 axes1, .fz (rI .i64) v2 v1.Shape, .fz (rI .i64) v3 v1.Data, .own (rI .i64) v6 Data1] Fr)) ?_ ?_
   ·refine c_reg fun R hR => ?_
    refine o_pure hS (.inl rfl) rfl rfl ?_; clear hS; try clear tm
    intro tm hS
    refine o_pure hS (.inl rfl) rfl rfl ?_; clear hS; try clear tm
    intro tm hS
    refine o_pure hS (.inl rfl) rfl rfl ?_; clear hS; try clear tm
    intro tm hS
    refine o_nil (hR _ _ ?_)
    clear hR R
    refine c_cond hS rfl (fun hc => ?_) (fun hc => ?_)
    ·replace h10 := iteT hc h10
     refine c_reg1 fun R hR => ?_
     refine o_pure hS (.inl rfl) rfl rfl ?_; clear hS; try clear tm
     intro tm hS
     refine o_pure hS (.inl rfl) rfl rfl ?_; clear hS; try clear tm
     intro tm hS
     refine o_pure hS (.inl rfl) rfl rfl ?_; clear hS; try clear tm
     intro tm hS
     refine o_nil (hR _ _ ?_)
     clear hR R
     obtain rfl := Option.some.inj h10
     change S wm 121 _ _ _ _ Fr; exact hS.keep (ka_cons rfl (ka_cons rfl (ka_cons rfl (ka_cons rfl (ka_cons rfl (ka_cons rfl (ka_cons rfl ka_nil))))))) (fun hI => (((((((hI.pull 2 rfl).pull 5 rfl).pull 5 rfl).pull 5 rfl).pull 5 rfl).pull 5 rfl).take 6))
    ·replace h10 := iteF hc h10
     refine wpC.skip ?_
     obtain rfl := Option.some.inj h10
     change S wm 121 _ _ _ _ Fr; exact hS.keep (ka_cons rfl (ka_cons rfl (ka_cons rfl (ka_cons rfl (ka_cons rfl (ka_cons rfl (ka_cons rfl ka_nil))))))) (fun hI => (((((((hI.pull 2 rfl).pull 5 rfl).pull 5 rfl).pull 5 rfl).pull 5 rfl).pull 5 rfl).take 6))
   intro tm H hS
   change S wm 121 tm H [(1, .int .u8 which1), (2, v4), (3, .pointer (some ⟨b1, 0, none⟩)), (7, .string y1), (8, .pointer (some ⟨b2, 0, none⟩)), (9, .int .i64 i1), (10, .int .i64 n1)] [.box b1 [.bool v1.Char, v2, v3], .box b2 [.bool false, v2, v6], .fz (rI .u8) v4 axes1, .fz (rI .i64) v2 v1.Shape, .fz (rI .i64) v3 v1.Data, .own (rI .i64) v6 Data1] Fr at hS
   refine c_reg1 fun R hR => ?_
   refine o_pure hS (.inl rfl) rfl rfl ?_; clear hS; try clear tm
   intro tm hS
   refine o_ld1 (k := 1) hS (.inl rfl) rfl rfl rfl (.inl rfl) Fu23 rfl rfl ?_; clear hS; try clear tm
   intro tm hS
   refine o_pure hS (.inl rfl) rfl rfl ?_; clear hS; try clear tm
   intro tm hS
   refine o_lit (r := (rI .i64)) (l := [n1]) hS (.inl rfl) rfl Fl23 rfl rfl rfl (.cons rfl .nil) rfl rfl (ri_1 (rd_flat fun _ => rfl) ri_nil) rfl ?_; clear hS; try clear tm H
   intro v7 tm H hS
   obtain ⟨l1, hx3, h3⟩ := bindS h3
   refine o_app (k1 := 6) (k2 := 0) (r := (rI .i64)) hS (.inl rfl) rfl rfl rfl rfl rfl (.inr (.inr rfl)) rfl Fe23_23 rfl hx3 ?_; clear hS; try clear tm H
   intro v8 tm H hS
   refine o_pure hS (.inl rfl) rfl rfl ?_; clear hS; try clear tm
   intro tm hS
   refine o_st (k := 2) hS (.inl rfl) rfl rfl rfl Fs23 (cells_one (hS.one (k := 6) rfl (.inr (.inl rfl)))) rfl (all_cons (hS.one (k := 6) rfl (.inr (.inl rfl))) all_nil) rfl ?_; clear hS; try clear H
   intro H hS
   refine o_nil (hR _ _ ?_)
   clear hR R
   refine c_reg1 fun R hR => ?_
   refine o_pure hS (.inl rfl) rfl rfl ?_; clear hS; try clear tm
   intro tm hS
   refine o_pure hS (.inl rfl) rfl rfl ?_; clear hS; try clear tm
   intro tm hS
   refine o_pure hS (.inl rfl) rfl rfl ?_; clear hS; try clear tm
   intro tm hS
   refine o_nil (hR _ _ ?_)
   clear hR R
   obtain rfl := Option.some.inj h3
   refine ⟨_, rfl, ?_⟩
   refine Exists.intro v8 ?_; change S wm 121 _ _ _ _ Fr; exact hS.keep (ka_cons rfl (ka_cons rfl (ka_cons rfl (ka_cons rfl (ka_cons rfl (ka_cons rfl ka_nil)))))) (fun hI => (((((((hI.pull 5 rfl).pull 5 rfl).pull 5 rfl).pull 6 rfl).pull 6 rfl).pull 6 rfl).take 6))
  ·replace h3 := iteF hc h3
   refine wpC.exit ?_
   refine seqX ?_
   obtain rfl := Option.some.inj h3
   obtain rfl := hq3 _ rfl
   refine And.intro rfl (blk_eq ?_)
   replace h0 := joinN h0
   refine c_reg fun R hR => ?_
   refine o_ldA (k := 1) hS (.inl rfl) rfl rfl rfl (.inl rfl) Fu25 rfl Fs25 rfl ?_; clear hS; try clear tm
   intro tm hS
   obtain ⟨⟨r1, r2⟩, hx4, h0⟩ := bindS h0
   refine o_call (Pc := fun _ res H => ∃ v9 v10, res = .tuple #[.agg #[.bool r1.Char, v9, v10], .int .i64 r2] ∧ Kn wm H ([.own (rI .i64) v9 r1.Shape, .own (rI .i64) v10 r1.Data] ++ [.box b1 [.bool v1.Char, v2, v3], .box b2 [.bool false, v2, v6], .own (rI .i64) v6 Data1, .fz (rI .u8) v4 axes1, .fz (rI .i64) v2 v1.Shape, .fz (rI .i64) v3 v1.Data]) Fr) hS (.inl rfl) rfl (fun wm' hw1 hw2 => by
    obtain ⟨F2, kk_1, kk_2⟩ := hS.inv.lendR (La := [.fz (rI .i64) v2 v1.Shape, .fz (rI .i64) v6 Data1]) (List.forall_mem_cons.mpr ⟨(.inl ⟨rfl, List.mem_of_getElem? (i := 4) rfl⟩), (List.forall_mem_cons.mpr ⟨(.inr ⟨_, _, _, _, rfl, .inl (List.mem_of_getElem? (i := 2) rfl)⟩), (fun _ h => by cases h)⟩)⟩) hw1 hw2
    exact (wk10  (Val.mk false v1.Shape Data1)  v2 v6 kk_1 hx4).mono fun res H2 ⟨v9, v10, qq_1, qq_2⟩ => ⟨v9, v10, qq_1, kk_2 _ _ (List.forall_mem_cons.mpr ⟨⟨_, _, _, _, rfl, fun _ _ _ _ h => h⟩, (List.forall_mem_cons.mpr ⟨⟨_, _, _, _, rfl, fun _ _ _ _ h => h⟩, (fun _ h => by cases h)⟩)⟩) qq_2⟩) (fun wm' res H hw' hp => ?_)
   obtain ⟨v9, v10, hres, hI⟩ := hp
   replace hres := hres.symm; subst hres
   replace hS : S wm 121 _ H ((66, .tuple #[.agg #[.bool r1.Char, v9, v10], .int .i64 r2]) :: _) ([.own (rI .i64) v9 r1.Shape, .own (rI .i64) v10 r1.Data] ++ [.box b1 [.bool v1.Char, v2, v3], .box b2 [.bool false, v2, v6], .own (rI .i64) v6 Data1, .fz (rI .u8) v4 axes1, .fz (rI .i64) v2 v1.Shape, .fz (rI .i64) v3 v1.Data]) Fr := (hS.put rfl _).withK hI
   clear hI hw'
   refine o_pure hS (.inl rfl) rfl rfl ?_; clear hS; try clear tm
   intro tm hS
   refine o_pure hS (.inl rfl) rfl rfl ?_; clear hS; try clear tm
   intro tm hS
   refine o_pure hS (.inl rfl) rfl rfl ?_; clear hS; try clear tm
   intro tm hS
   refine o_alloc hS (.inl rfl) rfl Fz25 (by decide) ?_; clear hS; try clear tm H
   intro b3 tm H hS
   refine o_st (k := 0) hS (.inl rfl) rfl rfl rfl Fs25 rfl rfl (all_cons rfl (all_cons (hS.one (k := 1) rfl (.inr (.inl rfl))) (all_cons (hS.one (k := 2) rfl (.inr (.inl rfl))) all_nil))) rfl ?_; clear hS; try clear H
   intro H hS
   refine o_pure hS (.inl rfl) rfl rfl ?_; clear hS; try clear tm
   intro tm hS
   refine o_nil (hR _ _ ?_)
   clear hR R
   refine c_seqS ?_
   refine c_reg fun R hR => ?_
   refine o_pure hS (.inl rfl) rfl rfl ?_; clear hS; try clear tm
   intro tm hS
   refine o_pure hS (.inl rfl) rfl rfl ?_; clear hS; try clear tm
   intro tm hS
   refine o_nil (hR _ _ ?_)
   clear hR R
   refine c_cond hS rfl (fun hc => ?_) (fun hc => ?_)
   ·replace h0 := iteT hc h0
    refine c_reg fun R hR => ?_
    refine o_call hS (.inl rfl) rfl (fun wm' hw1 hw2 => wpF.told ho9 (Q := fun v H' => v = .bool true ∧ H' = H) ⟨rfl, rfl⟩) (fun wm' res H hw' hp => ?_)
    obtain ⟨rfl, rfl⟩ := hp
    replace hS := hS.put (d := 71) rfl (.bool true)
    clear hw'
    refine o_pure hS (.inl rfl) rfl rfl ?_; clear hS; try clear tm
    intro tm hS
    refine o_nil (hR _ _ ?_)
    clear hR R
    refine wpC.ret ?_
    obtain rfl := Option.some.inj h0
    refine Exists.intro _ (And.intro (rs_tmp hS rfl rs_nil) ?_)
    have hI := hS.inv
    exact ⟨rfl, (hI.sub sn)⟩
   ·replace h0 := iteF hc h0
    refine wpC.skip ?_
    refine c_reg fun R hR => ?_
    refine o_pure hS (.inl rfl) rfl rfl ?_; clear hS; try clear tm
    intro tm hS
    refine o_ldA (k := 0) hS (.inl rfl) rfl rfl rfl (.inl rfl) Fu25 rfl Fs25 rfl ?_; clear hS; try clear tm
    intro tm hS
    obtain ⟨⟨r3, r4⟩, hx5, h0⟩ := bindS h0
    refine o_call (Pc := fun _ res H => ∃ v11 v12, res = .tuple #[.agg #[.bool r3.Char, v11, v12], .int .i64 r4] ∧ Kn wm H ([.own (rI .i64) v11 r3.Shape, .own (rI .i64) v12 r3.Data] ++ [.box b3 [.bool r1.Char, v9, v10], .own (rI .i64) v9 r1.Shape, .own (rI .i64) v10 r1.Data, .box b1 [.bool v1.Char, v2, v3], .box b2 [.bool false, v2, v6], .own (rI .i64) v6 Data1, .fz (rI .u8) v4 axes1, .fz (rI .i64) v2 v1.Shape, .fz (rI .i64) v3 v1.Data]) Fr) hS (.inl rfl) rfl (fun wm' hw1 hw2 => by
     obtain ⟨F2, kk_1, kk_2⟩ := hS.inv.lendR (La := [.fz (rI .i64) v9 r1.Shape, .fz (rI .i64) v10 r1.Data]) (List.forall_mem_cons.mpr ⟨(.inr ⟨_, _, _, _, rfl, .inl (List.mem_of_getElem? (i := 1) rfl)⟩), (List.forall_mem_cons.mpr ⟨(.inr ⟨_, _, _, _, rfl, .inl (List.mem_of_getElem? (i := 2) rfl)⟩), (fun _ h => by cases h)⟩)⟩) hw1 hw2
     exact (wk11 ho100 y1 r1 (-1)  v9 v10 kk_1 hx5).mono fun res H2 ⟨v11, v12, qq_1, qq_2⟩ => ⟨v11, v12, qq_1, kk_2 _ _ (List.forall_mem_cons.mpr ⟨⟨_, _, _, _, rfl, fun _ _ _ _ h => h⟩, (List.forall_mem_cons.mpr ⟨⟨_, _, _, _, rfl, fun _ _ _ _ h => h⟩, (fun _ h => by cases h)⟩)⟩) qq_2⟩) (fun wm' res H hw' hp => ?_)
    obtain ⟨v11, v12, hres, hI⟩ := hp
    replace hres := hres.symm; subst hres
    replace hS : S wm 121 _ H ((75, .tuple #[.agg #[.bool r3.Char, v11, v12], .int .i64 r4]) :: _) ([.own (rI .i64) v11 r3.Shape, .own (rI .i64) v12 r3.Data] ++ [.box b3 [.bool r1.Char, v9, v10], .own (rI .i64) v9 r1.Shape, .own (rI .i64) v10 r1.Data, .box b1 [.bool v1.Char, v2, v3], .box b2 [.bool false, v2, v6], .own (rI .i64) v6 Data1, .fz (rI .u8) v4 axes1, .fz (rI .i64) v2 v1.Shape, .fz (rI .i64) v3 v1.Data]) Fr := (hS.put rfl _).withK hI
    clear hI hw'
    refine o_pure hS (.inl rfl) rfl rfl ?_; clear hS; try clear tm
    intro tm hS
    refine o_pure hS (.inl rfl) rfl rfl ?_; clear hS; try clear tm
    intro tm hS
    refine o_pure hS (.inl rfl) rfl rfl ?_; clear hS; try clear tm
    intro tm hS
    refine o_alloc hS (.inl rfl) rfl Fz25 (by decide) ?_; clear hS; try clear tm H
    intro b4 tm H hS
    refine o_st (k := 0) hS (.inl rfl) rfl rfl rfl Fs25 rfl rfl (all_cons rfl (all_cons (hS.one (k := 1) rfl (.inr (.inl rfl))) (all_cons (hS.one (k := 2) rfl (.inr (.inl rfl))) all_nil))) rfl ?_; clear hS; try clear H
    intro H hS
    refine o_pure hS (.inl rfl) rfl rfl ?_; clear hS; try clear tm
    intro tm hS
    refine o_nil (hR _ _ ?_)
    clear hR R
    refine c_seqS ?_
    refine c_reg fun R hR => ?_
    refine o_pure hS (.inl rfl) rfl rfl ?_; clear hS; try clear tm
    intro tm hS
    refine o_pure hS (.inl rfl) rfl rfl ?_; clear hS; try clear tm
    intro tm hS
    refine o_nil (hR _ _ ?_)
    clear hR R
    refine c_cond hS rfl (fun hc => ?_) (fun hc => ?_)
    ·replace h0 := iteT hc h0
     refine c_reg fun R hR => ?_
     refine o_pure hS (.inl rfl) rfl rfl ?_; clear hS; try clear tm
     intro tm hS
     refine o_nil (hR _ _ ?_)
     clear hR R
     refine wpC.ret ?_
     obtain rfl := Option.some.inj h0
     refine Exists.intro _ (And.intro (rs_tmp hS rfl rs_nil) ?_)
     have hI := hS.inv
     exact ⟨rfl, (hI.sub sn)⟩
    ·replace h0 := iteF hc h0
     refine wpC.skip ?_
     refine c_seqS ?_
     refine c_reg fun R hR => ?_
     refine o_pure hS (.inl rfl) rfl rfl ?_; clear hS; try clear tm
     intro tm hS
     refine o_nil (hR _ _ ?_)
     clear hR R
     obtain ⟨k2, hw2, h0⟩ := bindS h0
     refine wpC.block ?_
     refine c_loop (I := fun (s : Int × Bool × (List Int) × (List Int)) tm H => match (generalizing := false) s with | (i2, Char1, Shape1, Data2) => ∃ v13 v14, S wm 121 tm H [(2, v4), (7, .string y1), (8, .pointer (some ⟨b2, 0, none⟩)), (13, .pointer (some ⟨b4, 0, none⟩)), (15, .int .i64 i2)] [.box b2 [.bool Char1, v13, v14], .box b4 [.bool r3.Char, v11, v12], .fz (rI .i64) v13 Shape1, .own (rI .i64) v14 Data2, .fz (rI .u8) v4 axes1, .own (rI .i64) v11 r3.Shape, .own (rI .i64) v12 r3.Data] Fr) hw2 (by refine Exists.intro v2 ?_; refine Exists.intro v6 ?_; change S wm 121 _ _ _ _ Fr; exact hS.keep (ka_cons rfl (ka_cons rfl (ka_cons rfl (ka_cons rfl (ka_cons rfl ka_nil))))) (fun hI => ((((((((hI.pull 2 rfl).pull 2 rfl).pull 9 rfl).pull 9 rfl).pull 10 rfl).pull 5 rfl).pull 10 rfl).take 7))) ?_
     clear hS
     intro s2 tm H c4 hS h13 hq13
     obtain ⟨i2, Char1, Shape1, Data2⟩ := s2
     obtain ⟨v13, v14, hS⟩ := hS
     change S wm 121 tm H [(2, v4), (7, .string y1), (8, .pointer (some ⟨b2, 0, none⟩)), (13, .pointer (some ⟨b4, 0, none⟩)), (15, .int .i64 i2)] [.box b2 [.bool Char1, v13, v14], .box b4 [.bool r3.Char, v11, v12], .fz (rI .i64) v13 Shape1, .own (rI .i64) v14 Data2, .fz (rI .u8) v4 axes1, .own (rI .i64) v11 r3.Shape, .own (rI .i64) v12 r3.Data] Fr at hS
     refine c_seqS ?_
     refine c_reg fun R hR => ?_
     refine o_pure hS (.inl rfl) rfl rfl ?_; clear hS; try clear tm
     intro tm hS
     refine o_ld1 (k := 0) hS (.inl rfl) rfl rfl rfl (.inl rfl) Fu22 rfl rfl ?_; clear hS; try clear tm
     intro tm hS
     refine o_len (k := 2) (r := (rI .i64)) hS (.inl rfl) rfl rfl rfl (.inl rfl) Fu22 rfl ?_; clear hS; try clear tm
     intro tm hS
     refine o_pure hS (.inl rfl) rfl rfl ?_; clear hS; try clear tm
     intro tm hS
     refine o_nil (hR _ _ ?_)
     clear hR R
     refine c_cond hS rfl (fun hc => ?_) (fun hc => ?_)
     ·replace h13 := iteT hc h13
      refine wpC.skip ?_
      refine c_seqS ?_
      refine wpC.block ?_
      refine c_reg fun R hR => ?_
      refine o_pure hS (.inl rfl) rfl rfl ?_; clear hS; try clear tm
      intro tm hS
      refine o_nil (hR _ _ ?_)
      clear hR R
      obtain ⟨k3, h15, h13⟩ := bindS h13
      refine c_seqJ (J := fun tm H => (match (generalizing := false) k3 with | k3 => S wm 121 tm H [(2, v4), (7, .string y1), (8, .pointer (some ⟨b2, 0, none⟩)), (13, .pointer (some ⟨b4, 0, none⟩)), (15, .int .i64 i2), (16, .int .i64 k3)] [.box b2 [.bool Char1, v13, v14], .box b4 [.bool r3.Char, v11, v12], .fz (rI .u8) v4 axes1, .fz (rI .i64) v13 Shape1, .own (rI .i64) v14 Data2, .own (rI .i64) v11 r3.Shape, .own (rI .i64) v12 r3.Data] Fr)) ?_ ?_
      ·refine c_reg fun R hR => ?_
       refine o_pure hS (.inl rfl) rfl rfl ?_; clear hS; try clear tm
       intro tm hS
       refine o_pure hS (.inl rfl) rfl rfl ?_; clear hS; try clear tm
       intro tm hS
       refine o_len (k := 4) (r := (rI .u8)) hS (.inl rfl) rfl rfl rfl (.inl rfl) Fu26 rfl ?_; clear hS; try clear tm
       intro tm hS
       refine o_pure hS (.inl rfl) rfl rfl ?_; clear hS; try clear tm
       intro tm hS
       refine o_nil (hR _ _ ?_)
       clear hR R
       refine c_cond hS rfl (fun hc => ?_) (fun hc => ?_)
       ·replace h15 := iteT hc h15
        refine c_reg1 fun R hR => ?_
        refine o_pure hS (.inl rfl) rfl rfl ?_; clear hS; try clear tm
        intro tm hS
        refine o_pure hS (.inl rfl) rfl rfl ?_; clear hS; try clear tm
        intro tm hS
        obtain ⟨y3, hx6, h15⟩ := bindS h15
        refine o_ixA (k := 4) (r := (rI .u8)) hS (.inl rfl) rfl rfl rfl rfl (.inl rfl) Fu26 Fs5 hx6 ?_; clear hS; try clear tm
        intro tm hS
        refine o_ldF (r := (rI .u8)) (k := 4) hS (.inl rfl) rfl rfl rfl (.inl rfl) hx6 Fu5 rfl (flat_I _) rfl ?_; clear hS; try clear tm
        intro tm hS
        refine o_pure hS (.inl rfl) rfl rfl ?_; clear hS; try clear tm
        intro tm hS
        refine o_pure hS (.inl rfl) rfl rfl ?_; clear hS; try clear tm
        intro tm hS
        refine o_ld1 (k := 0) hS (.inl rfl) rfl rfl rfl (.inl rfl) Fu22 rfl rfl ?_; clear hS; try clear tm
        intro tm hS
        refine o_len (k := 2) (r := (rI .i64)) hS (.inl rfl) rfl rfl rfl (.inl rfl) Fu22 rfl ?_; clear hS; try clear tm
        intro tm hS
        obtain ⟨q1, hx7, h15⟩ := bindS h15
        refine o_rem hS (.inl rfl) rfl rfl rfl hx7 ?_; clear hS; try clear tm
        intro tm hS
        refine o_pure hS (.inl rfl) rfl rfl ?_; clear hS; try clear tm
        intro tm hS
        refine o_nil (hR _ _ ?_)
        clear hR R
        obtain rfl := Option.some.inj h15
        change S wm 121 _ _ _ _ Fr; exact hS.keep (ka_cons rfl (ka_cons rfl (ka_cons rfl (ka_cons rfl (ka_cons rfl (ka_cons rfl ka_nil)))))) (fun hI => ((((((((hI.pull 6 rfl).pull 6 rfl).pull 5 rfl).pull 5 rfl).pull 6 rfl).pull 6 rfl).pull 6 rfl).take 7))
       ·replace h15 := iteF hc h15
        refine wpC.skip ?_
        obtain rfl := Option.some.inj h15
        change S wm 121 _ _ _ _ Fr; exact hS.keep (ka_cons rfl (ka_cons rfl (ka_cons rfl (ka_cons rfl (ka_cons rfl (ka_cons rfl ka_nil)))))) (fun hI => ((((((((hI.pull 6 rfl).pull 6 rfl).pull 5 rfl).pull 5 rfl).pull 6 rfl).pull 6 rfl).pull 6 rfl).take 7))
      intro tm H hS
      change S wm 121 tm H [(2, v4), (7, .string y1), (8, .pointer (some ⟨b2, 0, none⟩)), (13, .pointer (some ⟨b4, 0, none⟩)), (15, .int .i64 i2), (16, .int .i64 k3)] [.box b2 [.bool Char1, v13, v14], .box b4 [.bool r3.Char, v11, v12], .fz (rI .u8) v4 axes1, .fz (rI .i64) v13 Shape1, .own (rI .i64) v14 Data2, .own (rI .i64) v11 r3.Shape, .own (rI .i64) v12 r3.Data] Fr at hS
      refine c_reg fun R hR => ?_
      refine o_pure hS (.inl rfl) rfl rfl ?_; clear hS; try clear tm
      intro tm hS
      refine o_nil (hR _ _ ?_)
      clear hR R
      refine c_reg fun R hR => ?_
      refine o_pure hS (.inl rfl) rfl rfl ?_; clear hS; try clear tm
      intro tm hS
      refine o_ldA (k := 0) hS (.inl rfl) rfl rfl rfl (.inl rfl) Fu25 rfl Fs25 rfl ?_; clear hS; try clear tm
      intro tm hS
      refine o_pure hS (.inl rfl) rfl rfl ?_; clear hS; try clear tm
      intro tm hS
      obtain ⟨⟨r5, r6⟩, hx8, h13⟩ := bindS h13
      refine o_call (Pc := fun _ res H => ∃ v15 v16, res = .tuple #[.agg #[.bool r5.Char, v15, v16], .int .i64 r6] ∧ Kn wm H ([.own (rI .i64) v15 r5.Shape, .own (rI .i64) v16 r5.Data] ++ [.box b2 [.bool Char1, v13, v14], .box b4 [.bool r3.Char, v11, v12], .fz (rI .u8) v4 axes1, .fz (rI .i64) v13 Shape1, .own (rI .i64) v14 Data2, .own (rI .i64) v11 r3.Shape, .own (rI .i64) v12 r3.Data]) Fr) hS (.inl rfl) rfl (fun wm' hw1 hw2 => by
       obtain ⟨F2, kk_1, kk_2⟩ := hS.inv.lendR (La := [.fz (rI .i64) v13 Shape1, .fz (rI .i64) v14 Data2]) (List.forall_mem_cons.mpr ⟨(.inl ⟨rfl, List.mem_of_getElem? (i := 3) rfl⟩), (List.forall_mem_cons.mpr ⟨(.inr ⟨_, _, _, _, rfl, .inl (List.mem_of_getElem? (i := 4) rfl)⟩), (fun _ h => by cases h)⟩)⟩) hw1 hw2
       exact (wk11 ho100 y1 (Val.mk Char1 Shape1 Data2) k3  v13 v14 kk_1 hx8).mono fun res H2 ⟨v15, v16, qq_1, qq_2⟩ => ⟨v15, v16, qq_1, kk_2 _ _ (List.forall_mem_cons.mpr ⟨⟨_, _, _, _, rfl, fun _ _ _ _ h => h⟩, (List.forall_mem_cons.mpr ⟨⟨_, _, _, _, rfl, fun _ _ _ _ h => h⟩, (fun _ h => by cases h)⟩)⟩) qq_2⟩) (fun wm' res H hw' hp => ?_)
      obtain ⟨v15, v16, hres, hI⟩ := hp
      replace hres := hres.symm; subst hres
      replace hS : S wm 121 _ H ((103, .tuple #[.agg #[.bool r5.Char, v15, v16], .int .i64 r6]) :: _) ([.own (rI .i64) v15 r5.Shape, .own (rI .i64) v16 r5.Data] ++ [.box b2 [.bool Char1, v13, v14], .box b4 [.bool r3.Char, v11, v12], .fz (rI .u8) v4 axes1, .fz (rI .i64) v13 Shape1, .own (rI .i64) v14 Data2, .own (rI .i64) v11 r3.Shape, .own (rI .i64) v12 r3.Data]) Fr := (hS.put rfl _).withK hI
      clear hI hw'
      refine o_pure hS (.inl rfl) rfl rfl ?_; clear hS; try clear tm
      intro tm hS
      refine o_pure hS (.inl rfl) rfl rfl ?_; clear hS; try clear tm
      intro tm hS
      refine o_pure hS (.inl rfl) rfl rfl ?_; clear hS; try clear tm
      intro tm hS
      refine o_st (k := 2) hS (.inl rfl) rfl rfl rfl Fs25 rfl rfl (all_cons rfl (all_cons (hS.one (k := 0) rfl (.inr (.inl rfl))) (all_cons (hS.one (k := 1) rfl (.inr (.inl rfl))) all_nil))) rfl ?_; clear hS; try clear H
      intro H hS
      refine o_pure hS (.inl rfl) rfl rfl ?_; clear hS; try clear tm
      intro tm hS
      refine o_nil (hR _ _ ?_)
      clear hR R
      refine c_seqS ?_
      refine c_reg fun R hR => ?_
      refine o_pure hS (.inl rfl) rfl rfl ?_; clear hS; try clear tm
      intro tm hS
      refine o_pure hS (.inl rfl) rfl rfl ?_; clear hS; try clear tm
      intro tm hS
      refine o_nil (hR _ _ ?_)
      clear hR R
      refine c_cond hS rfl (fun hc => ?_) (fun hc => ?_)
      ·replace h13 := iteT hc h13
       refine c_reg fun R hR => ?_
       refine o_pure hS (.inl rfl) rfl rfl ?_; clear hS; try clear tm
       intro tm hS
       refine o_pure hS (.inl rfl) rfl rfl ?_; clear hS; try clear tm
       intro tm hS
       refine o_pure hS (.inl rfl) rfl rfl ?_; clear hS; try clear tm
       intro tm hS
       obtain ⟨c5, hc3⟩ : ∃ x : Bool, x = ((r6 == 27) && true) := ⟨_, rfl⟩
       refine o_cutN 2 (J := fun tm H => S wm 121 tm H [(112, .bool c5)] [] Fr) ?_ ?_
       ·rcases Bool.eq_false_or_eq_true (r6 == 27) with hg3 | hg3
        ·refine o_call hS (.inr ⟨_, _, _, _, rfl, rfl, rfl, hg3⟩) rfl (fun wm' hw1 hw2 => wpF.told ho9 (Q := fun v H' => v = .bool true ∧ H' = H) ⟨rfl, rfl⟩) (fun wm' res H hw' hp => ?_)
         obtain ⟨rfl, rfl⟩ := hp
         replace hS := hS.put (d := 111) rfl (.bool true)
         clear hw'
         refine o_pickT hS (.inl rfl) rfl rfl hg3 rfl ?_; clear hS; try clear tm
         intro tm hS
         have hc3 : c5 = true := hc3.trans (by rw [hg3]; first | rfl | simp)
         subst hc3
         exact o_nil (hS.keep (ka_cons rfl ka_nil) (fun hI => (hI.sub sn)))
        ·refine o_skip hS rfl rfl rfl hg3 ?_; clear hS; try clear tm
         intro tm hS
         refine o_pickF hS (.inl rfl) rfl rfl hg3 rfl ?_; clear hS; try clear tm
         intro tm hS
         have hc3 : c5 = false := hc3.trans (by rw [hg3]; first | rfl | simp)
         subst hc3
         exact o_nil (hS.keep (ka_cons rfl ka_nil) (fun hI => (hI.sub sn)))
       intro tm H hS
       subst hc3
       refine o_pure hS (.inl rfl) rfl rfl ?_; clear hS; try clear tm
       intro tm hS
       refine o_nil (hR _ _ ?_)
       clear hR R
       refine wpC.ret ?_
       obtain rfl := Option.some.inj h13
       obtain rfl := hq13 _ rfl
       refine And.intro rfl ?_
       obtain rfl := leave h0
       refine Exists.intro _ (And.intro (rs_tmp hS rfl rs_nil) ?_)
       have hI := hS.inv
       exact ⟨rfl, (hI.sub sn)⟩
      ·replace h13 := iteF hc h13
       refine wpC.skip ?_
       refine c_reg fun R hR => ?_
       refine o_pure hS (.inl rfl) rfl rfl ?_; clear hS; try clear tm
       intro tm hS
       refine o_pure hS (.inl rfl) rfl rfl ?_; clear hS; try clear tm
       intro tm hS
       refine o_nil (hR _ _ ?_)
       clear hR R
       refine c_cond hS rfl (fun hc => ?_) (fun hc => ?_)
       ·replace h13 := iteT hc h13
        refine c_reg fun R hR => ?_
        refine o_pure hS (.inl rfl) rfl rfl ?_; clear hS; try clear tm
        intro tm hS
        refine o_nil (hR _ _ ?_)
        clear hR R
        refine wpC.ret ?_
        obtain rfl := Option.some.inj h13
        obtain rfl := hq13 _ rfl
        refine And.intro rfl ?_
        obtain rfl := leave h0
        refine Exists.intro _ (And.intro (rs_tmp hS rfl rs_nil) ?_)
        have hI := hS.inv
        exact ⟨rfl, (hI.sub sn)⟩
       ·replace h13 := iteF hc h13
        refine wpC.skip ?_
        refine c_reg1 fun R hR => ?_
        refine o_pure hS (.inl rfl) rfl rfl ?_; clear hS; try clear tm
        intro tm hS
        refine o_pure hS (.inl rfl) rfl rfl ?_; clear hS; try clear tm
        intro tm hS
        refine o_pure hS (.inl rfl) rfl rfl ?_; clear hS; try clear tm
        intro tm hS
        refine o_nil (hR _ _ ?_)
        clear hR R
        obtain rfl := Option.some.inj h13
        replace hS := hS.frz (k := 0) rfl
        refine ⟨_, rfl, ?_⟩
        refine Exists.intro v15 ?_; refine Exists.intro v16 ?_; change S wm 121 _ _ _ _ Fr; exact hS.keep (ka_cons rfl (ka_cons rfl (ka_cons rfl (ka_cons rfl (ka_cons rfl ka_nil))))) (fun hI => ((((((((hI.pull 8 rfl).pull 8 rfl).pull 6 rfl).pull 4 rfl).pull 4 rfl).pull 6 rfl).pull 6 rfl).take 7))
     ·replace h13 := iteF hc h13
      refine wpC.exit ?_
      refine seqX ?_
      obtain rfl := Option.some.inj h13
      obtain rfl := hq13 _ rfl
      refine And.intro rfl (blk_eq ?_)
      replace h0 := joinN h0
      refine c_reg fun R hR => ?_
      refine o_ldA (k := 0) hS (.inl rfl) rfl rfl rfl (.inl rfl) Fu25 rfl Fs25 rfl ?_; clear hS; try clear tm
      intro tm hS
      refine o_ldA (k := 1) hS (.inl rfl) rfl rfl rfl (.inl rfl) Fu25 rfl Fs25 rfl ?_; clear hS; try clear tm
      intro tm hS
      obtain ⟨r7, hx9, h0⟩ := bindS h0
      refine o_call (Pc := fun _ res H => res = .bool r7 ∧ Kn wm H ([.box b2 [.bool Char1, v13, v14], .box b4 [.bool r3.Char, v11, v12], .fz (rI .i64) v13 Shape1, .own (rI .i64) v14 Data2, .fz (rI .u8) v4 axes1, .own (rI .i64) v11 r3.Shape, .own (rI .i64) v12 r3.Data]) Fr) hS (.inl rfl) rfl (fun wm' hw1 hw2 => by
       obtain ⟨F2, kk_1, kk_2⟩ := hS.inv.lend (La := [.fz (rI .i64) v13 Shape1, .fz (rI .i64) v14 Data2, .fz (rI .i64) v11 r3.Shape, .fz (rI .i64) v12 r3.Data]) (List.forall_mem_cons.mpr ⟨(.inl ⟨rfl, List.mem_of_getElem? (i := 2) rfl⟩), (List.forall_mem_cons.mpr ⟨(.inr ⟨_, _, _, _, rfl, .inl (List.mem_of_getElem? (i := 3) rfl)⟩), (List.forall_mem_cons.mpr ⟨(.inr ⟨_, _, _, _, rfl, .inl (List.mem_of_getElem? (i := 5) rfl)⟩), (List.forall_mem_cons.mpr ⟨(.inr ⟨_, _, _, _, rfl, .inl (List.mem_of_getElem? (i := 6) rfl)⟩), (fun _ h => by cases h)⟩)⟩)⟩)⟩) hw1 hw2
       exact (wk12  (Val.mk Char1 Shape1 Data2) 0 r3  v13 v14 v11 v12 kk_1 hx9).mono fun res H2 ⟨qq_1, qq_2⟩ => ⟨qq_1, kk_2 _ qq_2⟩) (fun wm' res H hw' hp => ?_)
      obtain ⟨hres, hI⟩ := hp
      replace hres := hres.symm; subst hres
      replace hS : S wm 121 _ H ((117, .bool r7) :: _) ([.box b2 [.bool Char1, v13, v14], .box b4 [.bool r3.Char, v11, v12], .fz (rI .i64) v13 Shape1, .own (rI .i64) v14 Data2, .fz (rI .u8) v4 axes1, .own (rI .i64) v11 r3.Shape, .own (rI .i64) v12 r3.Data]) Fr := (hS.put rfl _).withK hI
      clear hI hw'
      refine o_pure hS (.inl rfl) rfl rfl ?_; clear hS; try clear tm
      intro tm hS
      obtain ⟨c6, hc4⟩ : ∃ x : Bool, x = (r7 && true) := ⟨_, rfl⟩
      refine o_cutN 2 (J := fun tm H => S wm 121 tm H [(120, .bool c6)] [] Fr) ?_ ?_
      ·rcases Bool.eq_false_or_eq_true r7 with hg4 | hg4
       ·refine o_call hS (.inr ⟨_, _, _, _, rfl, rfl, rfl, hg4⟩) rfl (fun wm' hw1 hw2 => wpF.told ho9 (Q := fun v H' => v = .bool true ∧ H' = H) ⟨rfl, rfl⟩) (fun wm' res H hw' hp => ?_)
        obtain ⟨rfl, rfl⟩ := hp
        replace hS := hS.put (d := 119) rfl (.bool true)
        clear hw'
        refine o_pickT hS (.inl rfl) rfl rfl hg4 rfl ?_; clear hS; try clear tm
        intro tm hS
        have hc4 : c6 = true := hc4.trans (by rw [hg4]; first | rfl | simp)
        subst hc4
        exact o_nil (hS.keep (ka_cons rfl ka_nil) (fun hI => (hI.sub sn)))
       ·refine o_skip hS rfl rfl rfl hg4 ?_; clear hS; try clear tm
        intro tm hS
        refine o_pickF hS (.inl rfl) rfl rfl hg4 rfl ?_; clear hS; try clear tm
        intro tm hS
        have hc4 : c6 = false := hc4.trans (by rw [hg4]; first | rfl | simp)
        subst hc4
        exact o_nil (hS.keep (ka_cons rfl ka_nil) (fun hI => (hI.sub sn)))
      intro tm H hS
      subst hc4
      refine o_pure hS (.inl rfl) rfl rfl ?_; clear hS; try clear tm
      intro tm hS
      refine o_nil (hR _ _ ?_)
      clear hR R
      refine wpC.ret ?_
      obtain rfl := Option.some.inj h0
      refine Exists.intro _ (And.intro (rs_tmp hS rfl rs_nil) ?_)
      have hI := hS.inv
      exact ⟨rfl, (hI.sub sn)⟩
end Go.Proofs.Ytblgdjpeedgnoaa.overAxes
