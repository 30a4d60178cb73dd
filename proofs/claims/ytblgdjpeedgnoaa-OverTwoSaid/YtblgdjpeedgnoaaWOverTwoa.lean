/- OverTwo: walks of the code: the run of each function comes to what its plain function says. -/
import Derived.Test.YtblgdjpeedgnoaaMOverTwo
import Derived.Test.YtblgdjpeedgnoaaProg
set_option maxHeartbeats 4000000
set_option linter.unusedVariables false
set_option linter.unusedSimpArgs false
set_option maxRecDepth 100000
open Go Go.Am Go.Proofs
namespace Go.Proofs.Ytblgdjpeedgnoaa.overTwo
variable {ora : FuncId → Bool}
theorem Fu25 : Try.prog.underlying 25 = some ((Try.prog.underlying 25).getD .bool) := by kernel_rfl
theorem Fs25 : sizeOf' Try.prog 25 = some 3 := by kernel_rfl
theorem Fu23 : Try.prog.underlying 23 = some (.slice 2) := by kernel_rfl
theorem Fu22 : Try.prog.underlying 22 = some (.slice 3) := by kernel_rfl
theorem Fz25 : zeroOf Try.prog 25 = some ((zeroOf Try.prog 25).getD undef) ∧ constOk ((zeroOf Try.prog 25).getD undef) = true ∧ ((zeroOf Try.prog 25).getD undef).cells.toList = [.bool false, (.slice none 0 0), (.slice none 0 0)] := ⟨by kernel_rfl, by kernel_rfl, by kernel_rfl⟩
theorem Fl103 : LitOk Try.prog 103 3 25 ((zeroOf Try.prog 25).getD undef) := ⟨by kernel_rfl, by kernel_rfl, by kernel_rfl, by kernel_rfl, by kernel_rfl, by decide⟩
theorem Fu103 : Try.prog.underlying 103 = some (.slice 25) := by kernel_rfl
theorem Fs3 : sizeOf' Try.prog 3 = some 1 := by kernel_rfl
theorem Fu3 : Try.prog.underlying 3 = some (.int .i64) := by kernel_rfl
theorem Fu4 : Try.prog.underlying 4 = some .bool := by kernel_rfl
theorem Fs2 : sizeOf' Try.prog 2 = some 1 := by kernel_rfl
theorem Fu2 : Try.prog.underlying 2 = some (.int .i64) := by kernel_rfl
theorem Fu9 : Try.prog.underlying 9 = some .string := by kernel_rfl
theorem Fz72 : zeroOf Try.prog 72 = some ((zeroOf Try.prog 72).getD undef) ∧ constOk ((zeroOf Try.prog 72).getD undef) = true ∧ ((zeroOf Try.prog 72).getD undef).cells.toList = [.int .i64 0, .bool false] := ⟨by kernel_rfl, by kernel_rfl, by kernel_rfl⟩
theorem Fu72 : Try.prog.underlying 72 = some ((Try.prog.underlying 72).getD .bool) := by kernel_rfl
theorem Fs72 : sizeOf' Try.prog 72 = some 2 := by kernel_rfl
theorem Fq72 : eq2b Try.prog 72 = true := by kernel_rfl
theorem Fb72 : BuildOk Try.prog 72 [(0, 1), (1, 1)] [.int .i64 0, .bool false] (match Try.prog.underlying 72 with | some (.struct f) => f | _ => #[]) ((zeroOf Try.prog 72).getD undef) := ⟨by kernel_rfl, by kernel_rfl, by kernel_rfl, by kernel_rfl, by kernel_rfl⟩
theorem Fu141 : Try.prog.underlying 141 = some (.map 9 133) := by kernel_rfl
theorem Fb25 : BuildOk Try.prog 25 [(0, 1), (1, 1), (2, 1)] [.bool false, (.slice none 0 0), (.slice none 0 0)] (match Try.prog.underlying 25 with | some (.struct f) => f | _ => #[]) ((zeroOf Try.prog 25).getD undef) := ⟨by kernel_rfl, by kernel_rfl, by kernel_rfl, by kernel_rfl, by kernel_rfl⟩
theorem Fl22 : LitOk Try.prog 22 1 3 ((zeroOf Try.prog 3).getD undef) := ⟨by kernel_rfl, by kernel_rfl, by kernel_rfl, by kernel_rfl, by kernel_rfl, by decide⟩
theorem Fl113 : LitOk Try.prog 113 1 22 ((zeroOf Try.prog 22).getD undef) := ⟨by kernel_rfl, by kernel_rfl, by kernel_rfl, by kernel_rfl, by kernel_rfl, by decide⟩
theorem Fu113 : Try.prog.underlying 113 = some (.slice 22) := by kernel_rfl
theorem Fs22 : sizeOf' Try.prog 22 = some 1 := by kernel_rfl
theorem Fm22 : MkOk Try.prog 22 8 3 ((Try.prog.info? 3).getD default) (((Try.prog.info? 3).getD default).zero.getD undef) (.int .i64 0) := ⟨by kernel_rfl, by kernel_rfl, by kernel_rfl, by kernel_rfl, by kernel_rfl, by kernel_rfl, by kernel_rfl⟩
theorem Fe22_22 : ElemOk Try.prog 22 22 1 8 3 3 ((Try.prog.info? 3).getD default) (((Try.prog.info? 3).getD default).zero.getD undef) := ⟨by kernel_rfl, by kernel_rfl, by kernel_rfl, by kernel_rfl, by kernel_rfl, by kernel_rfl, by kernel_rfl, by decide, by kernel_rfl, by decide⟩
theorem Fm23 : MkOk Try.prog 23 8 2 ((Try.prog.info? 2).getD default) (((Try.prog.info? 2).getD default).zero.getD undef) (.int .i64 0) := ⟨by kernel_rfl, by kernel_rfl, by kernel_rfl, by kernel_rfl, by kernel_rfl, by kernel_rfl, by kernel_rfl⟩
theorem Fl23 : LitOk Try.prog 23 1 2 ((zeroOf Try.prog 2).getD undef) := ⟨by kernel_rfl, by kernel_rfl, by kernel_rfl, by kernel_rfl, by kernel_rfl, by decide⟩
theorem Fe23_23 : ElemOk Try.prog 23 23 1 8 2 2 ((Try.prog.info? 2).getD default) (((Try.prog.info? 2).getD default).zero.getD undef) := ⟨by kernel_rfl, by kernel_rfl, by kernel_rfl, by kernel_rfl, by kernel_rfl, by kernel_rfl, by kernel_rfl, by decide, by kernel_rfl, by decide⟩
theorem Fs23 : sizeOf' Try.prog 23 = some 1 := by kernel_rfl
theorem Fl28 : LitOk Try.prog 28 1 9 ((zeroOf Try.prog 9).getD undef) := ⟨by kernel_rfl, by kernel_rfl, by kernel_rfl, by kernel_rfl, by kernel_rfl, by decide⟩
theorem Fu28 : Try.prog.underlying 28 = some (.slice 9) := by kernel_rfl
theorem Fs9 : sizeOf' Try.prog 9 = some 1 := by kernel_rfl
theorem Fb83 : BuildOk Try.prog 83 [(0, 1), (1, 1)] [.int .i64 0, .bool false] (match Try.prog.underlying 83 with | some (.struct f) => f | _ => #[]) ((zeroOf Try.prog 83).getD undef) := ⟨by kernel_rfl, by kernel_rfl, by kernel_rfl, by kernel_rfl, by kernel_rfl⟩
theorem Fz83 : zeroOf Try.prog 83 = some ((zeroOf Try.prog 83).getD undef) ∧ constOk ((zeroOf Try.prog 83).getD undef) = true ∧ ((zeroOf Try.prog 83).getD undef).cells.toList = [.int .i64 0, .bool false] := ⟨by kernel_rfl, by kernel_rfl, by kernel_rfl⟩
theorem Fs83 : sizeOf' Try.prog 83 = some 2 := by kernel_rfl
theorem Fu83 : Try.prog.underlying 83 = some ((Try.prog.underlying 83).getD .bool) := by kernel_rfl
theorem Fz87 : zeroOf Try.prog 87 = some ((zeroOf Try.prog 87).getD undef) ∧ constOk ((zeroOf Try.prog 87).getD undef) = true ∧ ((zeroOf Try.prog 87).getD undef).cells.toList = [.bool false, (.slice none 0 0), (.slice none 0 0), (.slice none 0 0), .int .i64 0, .int .i64 0, .int .i64 0, .int .i64 0] := ⟨by kernel_rfl, by kernel_rfl, by kernel_rfl⟩
theorem Fb87 : BuildOk Try.prog 87 [(0, 3), (3, 1), (4, 1), (5, 1), (6, 1), (7, 1)] [.bool false, (.slice none 0 0), (.slice none 0 0), (.slice none 0 0), .int .i64 0, .int .i64 0, .int .i64 0, .int .i64 0] (match Try.prog.underlying 87 with | some (.struct f) => f | _ => #[]) ((zeroOf Try.prog 87).getD undef) := ⟨by kernel_rfl, by kernel_rfl, by kernel_rfl, by kernel_rfl, by kernel_rfl⟩
theorem Fs87 : sizeOf' Try.prog 87 = some 8 := by kernel_rfl
theorem Fu87 : Try.prog.underlying 87 = some ((Try.prog.underlying 87).getD .bool) := by kernel_rfl
theorem Fm75 : Try.prog.underlying 75 = some (.slice 72) ∧ Try.prog.info? 72 = some ((Try.prog.info? 72).getD default) ∧ (((Try.prog.info? 72).getD default)).zero = some (((Try.prog.info? 72).getD default).zero.getD undef) ∧ constOk (((Try.prog.info? 72).getD default).zero.getD undef) = true ∧ ((((Try.prog.info? 72).getD default).zero.getD undef)).cells.toList = [.int .i64 0, .bool false] ∧ Nat.beq (((Try.prog.info? 72).getD default)).size 2 = true ∧ Nat.ble 1 2 = true ∧ (((Try.prog.info? 72).getD default)).bytes = 16 := ⟨by kernel_rfl, by kernel_rfl, by kernel_rfl, by kernel_rfl, by kernel_rfl, by kernel_rfl, by kernel_rfl, by kernel_rfl⟩
theorem Fu75 : Try.prog.underlying 75 = some (.slice 72) := by kernel_rfl
theorem Fl90 : LitOk Try.prog 90 2 83 ((zeroOf Try.prog 83).getD undef) := ⟨by kernel_rfl, by kernel_rfl, by kernel_rfl, by kernel_rfl, by kernel_rfl, by decide⟩
theorem Fe90_90 : ElemOk Try.prog 90 90 2 16 83 83 ((Try.prog.info? 83).getD default) (((Try.prog.info? 83).getD default).zero.getD undef) := ⟨by kernel_rfl, by kernel_rfl, by kernel_rfl, by kernel_rfl, by kernel_rfl, by kernel_rfl, by kernel_rfl, by decide, by kernel_rfl, by decide⟩
theorem Fu90 : Try.prog.underlying 90 = some (.slice 83) := by kernel_rfl
theorem wk13 {wm : Nat} {H : AHeap} {Fr : List Ent}  (v1 : Val) (fn1 : ByteArray)  (v2 : Value) (v3 : Value) (hI : Kn wm H [.fz (rI .i64) v2 v1.Shape, .fz (rI .i64) v3 v1.Data] Fr) {r : Bool} (h0 : M.anamnesislaw12_great v1 fn1 = some r) :
  wpF Try.prog ora wm 13 [.agg #[.bool v1.Char, v2, v3], .string fn1] H (fun res H => res = .bool r ∧ Kn wm H [] Fr) := by
 unfold M.anamnesislaw12_great at h0
 refine f_enter (n := 20) Try.func13 rfl (by simp) hI rfl rfl rfl fun tm hS => ?_
 clear hI
 refine c_reg fun R hR => ?_
 refine o_box hS (.inl rfl) rfl rfl rfl (all_cons rfl (all_cons (hS.one (k := 0) rfl (.inl rfl)) (all_cons (hS.one (k := 1) rfl (.inl rfl)) all_nil))) ?_; clear hS
 intro b1 tm H hS
 refine pp1 hS rfl rfl ?_; clear hS
 intro tm hS
 refine o_nil (hR _ _ ?_)
 clear hR R
 refine c_reg fun R hR => ?_
 refine pp1 hS rfl rfl ?_; clear hS
 intro tm hS
 refine o_ld1 (k := 0) hS (.inl rfl) rfl rfl rfl (.inl rfl) Fu23 rfl rfl ?_; clear hS
 intro tm hS
 refine o_len (k := 2) (r := (rI .i64)) hS (.inl rfl) rfl rfl rfl (.inl rfl) Fu23 rfl ?_; clear hS
 intro tm hS
 refine pp2 hS rfl rfl rfl rfl ?_; clear hS
 intro tm hS
 obtain ⟨c1, hc1⟩ : ∃ x : Bool, x = ((decide ((v1.Data.length : Int) > 300)) || (decide ((v1.Shape.length : Int) > 10))) := ⟨_, rfl⟩
 refine o_cutN 5 (J := fun tm H => S wm 20 tm H [(14, .bool c1), (1, .string fn1)] [] Fr) ?_ ?_
 ·rcases Bool.eq_false_or_eq_true (decide ((v1.Data.length : Int) > 300)) with hg1 | hg1
  ·refine o_skip hS rfl rfl rfl hg1 ?_; clear hS
   intro tm hS
   refine o_skip hS rfl rfl rfl hg1 ?_; clear hS
   intro tm hS
   refine o_skip hS rfl rfl rfl hg1 ?_; clear hS
   intro tm hS
   refine o_skip hS rfl rfl rfl hg1 ?_; clear hS
   intro tm hS
   refine o_pickT hS (.inl rfl) rfl rfl hg1 rfl ?_; clear hS
   intro tm hS
   have hc1 : c1 = true := hc1.trans (by rw [hg1]; first | rfl | simp)
   subst hc1
   exact o_nil (hS.keep (k2 rfl rfl) (fun hI => (hI.sub sn)))
  ·refine o_pure hS (.inr ⟨_, _, _, _, rfl, rfl, rfl, hg1⟩) rfl rfl ?_; clear hS
   intro tm hS
   refine o_ld1 (k := 0) hS (.inr ⟨_, _, _, _, rfl, rfl, rfl, hg1⟩) rfl rfl rfl (.inl rfl) Fu22 rfl rfl ?_; clear hS
   intro tm hS
   refine o_len (k := 1) (r := (rI .i64)) hS (.inr ⟨_, _, _, _, rfl, rfl, rfl, hg1⟩) rfl rfl rfl (.inl rfl) Fu22 rfl ?_; clear hS
   intro tm hS
   refine o_pure hS (.inr ⟨_, _, _, _, rfl, rfl, rfl, hg1⟩) rfl rfl ?_; clear hS
   intro tm hS
   refine o_pickF hS (.inl rfl) rfl rfl hg1 rfl ?_; clear hS
   intro tm hS
   have hc1 : c1 = (decide ((v1.Shape.length : Int) > 10)) := hc1.trans (by rw [hg1]; first | rfl | simp)
   subst hc1
   exact o_nil (hS.keep (k2 rfl rfl) (fun hI => (hI.sub sn)))
 intro tm H hS
 subst hc1
 refine pp1 hS rfl rfl ?_; clear hS
 intro tm hS
 obtain ⟨c2, hc2⟩ : ∃ x : Bool, x = (((decide ((v1.Data.length : Int) > 300)) || (decide ((v1.Shape.length : Int) > 10))) || (decide ((fn1.size : Int) > 10))) := ⟨_, rfl⟩
 refine o_cutN 4 (J := fun tm H => S wm 20 tm H [(19, .bool c2)] [] Fr) ?_ ?_
 ·rcases Bool.eq_false_or_eq_true ((decide ((v1.Data.length : Int) > 300)) || (decide ((v1.Shape.length : Int) > 10))) with hg2 | hg2
  ·refine o_skip hS rfl rfl rfl hg2 ?_; clear hS
   intro tm hS
   refine o_skip hS rfl rfl rfl hg2 ?_; clear hS
   intro tm hS
   refine o_skip hS rfl rfl rfl hg2 ?_; clear hS
   intro tm hS
   refine o_pickT hS (.inl rfl) rfl rfl hg2 rfl ?_; clear hS
   intro tm hS
   have hc2 : c2 = true := hc2.trans (by rw [hg2]; first | rfl | simp)
   subst hc2
   exact o_nil (hS.keep (ka_cons rfl ka_nil) (fun hI => (hI.sub sn)))
  ·refine o_pure hS (.inr ⟨_, _, _, _, rfl, rfl, rfl, hg2⟩) rfl rfl ?_; clear hS
   intro tm hS
   refine o_pure hS (.inr ⟨_, _, _, _, rfl, rfl, rfl, hg2⟩) rfl rfl ?_; clear hS
   intro tm hS
   refine o_pure hS (.inr ⟨_, _, _, _, rfl, rfl, rfl, hg2⟩) rfl rfl ?_; clear hS
   intro tm hS
   refine o_pickF hS (.inl rfl) rfl rfl hg2 rfl ?_; clear hS
   intro tm hS
   have hc2 : c2 = (decide ((fn1.size : Int) > 10)) := hc2.trans (by rw [hg2]; first | rfl | simp)
   subst hc2
   exact o_nil (hS.keep (ka_cons rfl ka_nil) (fun hI => (hI.sub sn)))
 intro tm H hS
 subst hc2
 refine pp1 hS rfl rfl ?_; clear hS
 intro tm hS
 refine o_nil (hR _ _ ?_)
 clear hR R
 refine wpC.ret ?_
 obtain rfl := Option.some.inj h0
 refine Exists.intro _ (And.intro (rs_tmp hS rfl rs_nil) ?_)
 have hI := hS.inv
 exact ⟨rfl, (hI.sub sn)⟩
theorem wk86 {wm : Nat} {H : AHeap} {Fr : List Ent}  (s1 : (List Val)) (f1 : (Val → Option (Bool))) (gfn1 : FuncId) (gcap1 : Array Value) (E : List Ent) (hE : ∀ e ∈ E, e.blk = none) (hf : ∀ {wm : Nat} {H : AHeap} {Fr : List Ent} (y0 : Val) (v4 : Value) (v5 : Value), Kn wm H (.fz (rI .i64) v4 y0.Shape :: .fz (rI .i64) v5 y0.Data :: E) Fr → ∀ {r : Bool}, f1 y0 = some r → wpF Try.prog ora wm gfn1 ([.agg #[.bool y0.Char, v4, v5]] ++ gcap1.toList) H (fun res H => res = .bool r ∧ Kn wm H [] Fr)) (v1 : Value) (hI : Kn wm H (.fz rVal v1 s1 :: E) Fr) {r : Int} (h0 : M.slices_IndexFunc__Value s1 f1 = some r) :
  wpF Try.prog ora wm 86 [v1, .func (.func gfn1) #[] gcap1] H (fun res H => res = .int .i64 r ∧ Kn wm H [] Fr) := by
 unfold M.slices_IndexFunc__Value at h0
 refine f_enter (n := 19) Try.func86 rfl (by simp) hI rfl rfl rfl fun tm hS => ?_
 clear hI
 refine cr1 hS rfl rfl ?_; clear hS
 intro tm hS
 refine c_seqS ?_
 refine c_reg fun R hR => ?_
 refine pp1 hS rfl rfl ?_; clear hS
 intro tm hS
 refine o_len (k := 0) (r := rVal) hS (.inl rfl) rfl rfl rfl (.inl rfl) Fu103 rfl ?_; clear hS
 intro tm hS
 refine pp1 hS rfl rfl ?_; clear hS
 intro tm hS
 refine o_nil (hR _ _ ?_)
 clear hR R
 obtain ⟨k1, hw1, h0⟩ := bindS h0
 refine wpC.block ?_
 refine c_loop (I := fun (s : Int) tm H => match (generalizing := false) s with | t1 => S wm 19 tm H [(0, v1), (1, .func (.func gfn1) #[] gcap1), (7, .int .i64 (s1.length : Int)), (8, .int .i64 t1)] (.fz rVal v1 s1 :: E) Fr) hw1 (by change S wm 19 _ _ _ _ Fr; exact hS.keep (k4 rfl rfl rfl rfl) (fun hI => (hI.sub (sc sr)))) ?_
 clear hS
 intro t1 tm H c1 hS h1 hq1
 change S wm 19 tm H [(0, v1), (1, .func (.func gfn1) #[] gcap1), (7, .int .i64 (s1.length : Int)), (8, .int .i64 t1)] (.fz rVal v1 s1 :: E) Fr at hS
 refine cr1 hS rfl rfl ?_; clear hS
 intro tm hS
 refine c_seqS ?_
 refine c_cond hS rfl (fun hc => ?_) (fun hc => ?_)
 ·replace h1 := iteT hc h1
  refine wpC.skip ?_
  refine c_seqS ?_
  refine wpC.block ?_
  refine cr2 hS rfl rfl rfl rfl ?_; clear hS
  intro tm hS
  refine c_reg fun R hR => ?_
  refine pp3 hS rfl rfl rfl rfl rfl rfl ?_; clear hS
  intro tm hS
  obtain ⟨y1, hx1, h1⟩ := bindS h1
  refine o_ixA (k := 0) (r := rVal) hS (.inl rfl) rfl rfl rfl rfl (.inl rfl) Fu103 Fs25 hx1 ?_; clear hS
  intro tm hS
  refine o_ldVal (k := 0) hS (.inl rfl) rfl rfl rfl (.inl rfl) hx1 Fu25 rfl Fs25 rfl ?_; clear hS
  intro v2 v3 tm hS
  obtain ⟨r1, hx2, h1⟩ := bindS h1
  refine o_call hS (.inl rfl) rfl (fun wm' hw1 hw2 => hf y1 v2 v3 ((((hS.sel hw2).adAll hE (fun e he => List.mem_cons_of_mem _ (List.mem_cons_of_mem _ (List.mem_cons_of_mem _ (he))))).ad 1 rfl).ad 0 rfl) hx2) (fun wm' res H hw' hp => ?_)
  obtain ⟨hres, hI⟩ := hp
  replace hres := hres.symm; subst hres
  replace hS : S wm 19 _ H ((16, .bool r1) :: _) ([] ++ _) Fr := hS.after rfl hw' hI
  clear hI hw'
  refine o_nil (hR _ _ ?_)
  clear hR R
  refine c_cond hS rfl (fun hc => ?_) (fun hc => ?_)
  ·replace h1 := iteT hc h1
   refine cr2 hS rfl rfl rfl rfl ?_; clear hS
   intro tm hS
   refine wpC.ret ?_
   obtain rfl := Option.some.inj h1
   obtain rfl := hq1 _ rfl
   refine And.intro rfl ?_
   obtain rfl := leave h0
   refine Exists.intro _ (And.intro (rs_tmp hS rfl rs_nil) ?_)
   have hI := hS.inv
   exact ⟨rfl, (hI.sub sn)⟩
  ·replace h1 := iteF hc h1
   refine wpC.skip ?_
   refine cs2 hS rfl rfl rfl rfl ?_; clear hS
   intro tm hS
   obtain rfl := Option.some.inj h1
   refine ⟨_, rfl, ?_⟩
   change S wm 19 _ _ _ _ Fr; exact hS.keep (k4 rfl rfl rfl rfl) (fun hI => (hI.sub (sd (sd (sc sr)))))
 ·replace h1 := iteF hc h1
  refine wpC.exit ?_
  refine seqX ?_
  obtain rfl := Option.some.inj h1
  obtain rfl := hq1 _ rfl
  refine And.intro rfl (blk_eq ?_)
  replace h0 := joinN h0
  refine cr1 hS rfl rfl ?_; clear hS
  intro tm hS
  refine wpC.ret ?_
  obtain rfl := Option.some.inj h0
  refine Exists.intro _ (And.intro (rs_tmp hS rfl rs_nil) ?_)
  have hI := hS.inv
  exact ⟨rfl, (hI.sub sn)⟩
theorem wk58 {wm : Nat} {H : AHeap} {Fr : List Ent}  (s1 : (List Val)) (f1 : (Val → Option (Bool))) (gfn1 : FuncId) (gcap1 : Array Value) (E : List Ent) (hE : ∀ e ∈ E, e.blk = none) (hf : ∀ {wm : Nat} {H : AHeap} {Fr : List Ent} (y0 : Val) (v2 : Value) (v3 : Value), Kn wm H (.fz (rI .i64) v2 y0.Shape :: .fz (rI .i64) v3 y0.Data :: E) Fr → ∀ {r : Bool}, f1 y0 = some r → wpF Try.prog ora wm gfn1 ([.agg #[.bool y0.Char, v2, v3]] ++ gcap1.toList) H (fun res H => res = .bool r ∧ Kn wm H [] Fr)) (v1 : Value) (hI : Kn wm H (.fz rVal v1 s1 :: E) Fr) {r : Bool} (h0 : M.slices_ContainsFunc__Value s1 f1 = some r) :
  wpF Try.prog ora wm 58 [v1, .func (.func gfn1) #[] gcap1] H (fun res H => res = .bool r ∧ Kn wm H [] Fr) := by
 unfold M.slices_ContainsFunc__Value at h0
 refine f_enter (n := 9) Try.func58 rfl (by simp) hI rfl rfl rfl fun tm hS => ?_
 clear hI
 refine cr1 hS rfl rfl ?_; clear hS
 intro tm hS
 refine c_reg fun R hR => ?_
 refine pp2 hS rfl rfl rfl rfl ?_; clear hS
 intro tm hS
 obtain ⟨r1, hx1, h0⟩ := bindS h0
 refine o_call hS (.inl rfl) rfl (fun wm' hw1 hw2 => wk86  s1 f1 gfn1 gcap1 E hE hf v1 (((hS.sel hw2).adAll hE (fun e he => List.mem_cons_of_mem _ (he))).ad 0 rfl) hx1) (fun wm' res H hw' hp => ?_)
 obtain ⟨hres, hI⟩ := hp
 replace hres := hres.symm; subst hres
 replace hS : S wm 9 _ H ((7, .int .i64 r1) :: _) ([] ++ _) Fr := hS.after rfl hw' hI
 clear hI hw'
 refine pp2 hS rfl rfl rfl rfl ?_; clear hS
 intro tm hS
 refine o_nil (hR _ _ ?_)
 clear hR R
 refine wpC.ret ?_
 obtain rfl := Option.some.inj h0
 refine Exists.intro _ (And.intro (rs_tmp hS rfl rs_nil) ?_)
 have hI := hS.inv
 exact ⟨rfl, (hI.sub sn)⟩
theorem wk98 {wm : Nat} {H : AHeap} {Fr : List Ent}  (s1 : (List Int)) (f1 : (Int → Option (Bool))) (gfn1 : FuncId) (gcap1 : Array Value) (E : List Ent) (hE : ∀ e ∈ E, e.blk = none) (hf : ∀ {wm : Nat} {H : AHeap} {Fr : List Ent} (y0 : Int) , Kn wm H (E) Fr → ∀ {r : Bool}, f1 y0 = some r → wpF Try.prog ora wm gfn1 ([.int .i64 y0] ++ gcap1.toList) H (fun res H => res = .bool r ∧ Kn wm H [] Fr)) (v1 : Value) (hI : Kn wm H (.fz (rI .i64) v1 s1 :: E) Fr) {r : Int} (h0 : M.slices_IndexFunc__int64 s1 f1 = some r) :
  wpF Try.prog ora wm 98 [v1, .func (.func gfn1) #[] gcap1] H (fun res H => res = .int .i64 r ∧ Kn wm H [] Fr) := by
 unfold M.slices_IndexFunc__int64 at h0
 refine f_enter (n := 19) Try.func98 rfl (by simp) hI rfl rfl rfl fun tm hS => ?_
 clear hI
 refine cr1 hS rfl rfl ?_; clear hS
 intro tm hS
 refine c_seqS ?_
 refine c_reg fun R hR => ?_
 refine pp1 hS rfl rfl ?_; clear hS
 intro tm hS
 refine o_len (k := 0) (r := (rI .i64)) hS (.inl rfl) rfl rfl rfl (.inl rfl) Fu23 rfl ?_; clear hS
 intro tm hS
 refine pp1 hS rfl rfl ?_; clear hS
 intro tm hS
 refine o_nil (hR _ _ ?_)
 clear hR R
 obtain ⟨k1, hw1, h0⟩ := bindS h0
 refine wpC.block ?_
 refine c_loop (I := fun (s : Int) tm H => match (generalizing := false) s with | t1 => S wm 19 tm H [(0, v1), (1, .func (.func gfn1) #[] gcap1), (7, .int .i64 (s1.length : Int)), (8, .int .i64 t1)] (.fz (rI .i64) v1 s1 :: E) Fr) hw1 (by change S wm 19 _ _ _ _ Fr; exact hS.keep (k4 rfl rfl rfl rfl) (fun hI => (hI.sub (sc sr)))) ?_
 clear hS
 intro t1 tm H c1 hS h1 hq1
 change S wm 19 tm H [(0, v1), (1, .func (.func gfn1) #[] gcap1), (7, .int .i64 (s1.length : Int)), (8, .int .i64 t1)] (.fz (rI .i64) v1 s1 :: E) Fr at hS
 refine cr1 hS rfl rfl ?_; clear hS
 intro tm hS
 refine c_seqS ?_
 refine c_cond hS rfl (fun hc => ?_) (fun hc => ?_)
 ·replace h1 := iteT hc h1
  refine wpC.skip ?_
  refine c_seqS ?_
  refine wpC.block ?_
  refine cr2 hS rfl rfl rfl rfl ?_; clear hS
  intro tm hS
  refine c_reg fun R hR => ?_
  refine pp3 hS rfl rfl rfl rfl rfl rfl ?_; clear hS
  intro tm hS
  obtain ⟨y1, hx1, h1⟩ := bindS h1
  refine o_ixA (k := 0) (r := (rI .i64)) hS (.inl rfl) rfl rfl rfl rfl (.inl rfl) Fu23 Fs2 hx1 ?_; clear hS
  intro tm hS
  refine o_ldF (r := (rI .i64)) (k := 0) hS (.inl rfl) rfl rfl rfl (.inl rfl) hx1 Fu2 rfl (flat_I _) rfl ?_; clear hS
  intro tm hS
  obtain ⟨r1, hx2, h1⟩ := bindS h1
  refine o_call hS (.inl rfl) rfl (fun wm' hw1 hw2 => hf y1  ((hS.sel hw2).adAll hE (fun e he => List.mem_cons_of_mem _ (he))) hx2) (fun wm' res H hw' hp => ?_)
  obtain ⟨hres, hI⟩ := hp
  replace hres := hres.symm; subst hres
  replace hS : S wm 19 _ H ((16, .bool r1) :: _) ([] ++ _) Fr := hS.after rfl hw' hI
  clear hI hw'
  refine o_nil (hR _ _ ?_)
  clear hR R
  refine c_cond hS rfl (fun hc => ?_) (fun hc => ?_)
  ·replace h1 := iteT hc h1
   refine cr2 hS rfl rfl rfl rfl ?_; clear hS
   intro tm hS
   refine wpC.ret ?_
   obtain rfl := Option.some.inj h1
   obtain rfl := hq1 _ rfl
   refine And.intro rfl ?_
   obtain rfl := leave h0
   refine Exists.intro _ (And.intro (rs_tmp hS rfl rs_nil) ?_)
   have hI := hS.inv
   exact ⟨rfl, (hI.sub sn)⟩
  ·replace h1 := iteF hc h1
   refine wpC.skip ?_
   refine cs2 hS rfl rfl rfl rfl ?_; clear hS
   intro tm hS
   obtain rfl := Option.some.inj h1
   refine ⟨_, rfl, ?_⟩
   change S wm 19 _ _ _ _ Fr; exact hS.keep (k4 rfl rfl rfl rfl) (fun hI => (hI.sub (sc sr)))
 ·replace h1 := iteF hc h1
  refine wpC.exit ?_
  refine seqX ?_
  obtain rfl := Option.some.inj h1
  obtain rfl := hq1 _ rfl
  refine And.intro rfl (blk_eq ?_)
  replace h0 := joinN h0
  refine cr1 hS rfl rfl ?_; clear hS
  intro tm hS
  refine wpC.ret ?_
  obtain rfl := Option.some.inj h0
  refine Exists.intro _ (And.intro (rs_tmp hS rfl rs_nil) ?_)
  have hI := hS.inv
  exact ⟨rfl, (hI.sub sn)⟩
theorem wk80 {wm : Nat} {H : AHeap} {Fr : List Ent}  (s1 : (List Int)) (f1 : (Int → Option (Bool))) (gfn1 : FuncId) (gcap1 : Array Value) (E : List Ent) (hE : ∀ e ∈ E, e.blk = none) (hf : ∀ {wm : Nat} {H : AHeap} {Fr : List Ent} (y0 : Int) , Kn wm H (E) Fr → ∀ {r : Bool}, f1 y0 = some r → wpF Try.prog ora wm gfn1 ([.int .i64 y0] ++ gcap1.toList) H (fun res H => res = .bool r ∧ Kn wm H [] Fr)) (v1 : Value) (hI : Kn wm H (.fz (rI .i64) v1 s1 :: E) Fr) {r : Bool} (h0 : M.slices_ContainsFunc__int64 s1 f1 = some r) :
  wpF Try.prog ora wm 80 [v1, .func (.func gfn1) #[] gcap1] H (fun res H => res = .bool r ∧ Kn wm H [] Fr) := by
 unfold M.slices_ContainsFunc__int64 at h0
 refine f_enter (n := 9) Try.func80 rfl (by simp) hI rfl rfl rfl fun tm hS => ?_
 clear hI
 refine cr1 hS rfl rfl ?_; clear hS
 intro tm hS
 refine c_reg fun R hR => ?_
 refine pp2 hS rfl rfl rfl rfl ?_; clear hS
 intro tm hS
 obtain ⟨r1, hx1, h0⟩ := bindS h0
 refine o_call hS (.inl rfl) rfl (fun wm' hw1 hw2 => wk98  s1 f1 gfn1 gcap1 E hE hf v1 (((hS.sel hw2).adAll hE (fun e he => List.mem_cons_of_mem _ (he))).ad 0 rfl) hx1) (fun wm' res H hw' hp => ?_)
 obtain ⟨hres, hI⟩ := hp
 replace hres := hres.symm; subst hres
 replace hS : S wm 9 _ H ((7, .int .i64 r1) :: _) ([] ++ _) Fr := hS.after rfl hw' hI
 clear hI hw'
 refine pp2 hS rfl rfl rfl rfl ?_; clear hS
 intro tm hS
 refine o_nil (hR _ _ ?_)
 clear hR R
 refine wpC.ret ?_
 obtain rfl := Option.some.inj h0
 refine Exists.intro _ (And.intro (rs_tmp hS rfl rs_nil) ?_)
 have hI := hS.inv
 exact ⟨rfl, (hI.sub sn)⟩
theorem wk99 {wm : Nat} {H : AHeap} {Fr : List Ent}  (r1 : Int)   (hI : Kn wm H [] Fr) {r : Bool} (h0 : M.unicode_utf8_ValidRune r1 = some r) :
  wpF Try.prog ora wm 99 [.int .i32 r1] H (fun res H => res = .bool r ∧ Kn wm H [] Fr) := by
 unfold M.unicode_utf8_ValidRune at h0
 refine f_enter (n := 17) Try.func99 rfl (by simp) hI rfl rfl rfl fun tm hS => ?_
 clear hI
 refine cr1 hS rfl rfl ?_; clear hS
 intro tm hS
 refine c_seqS ?_
 refine wpC.block ?_
 refine c_reg fun R hR => ?_
 refine pp3 hS rfl rfl rfl rfl rfl rfl ?_; clear hS
 intro tm hS
 obtain ⟨c1, hc1⟩ : ∃ x : Bool, x = ((decide (0 ≤ r1)) && (decide (r1 < 55296))) := ⟨_, rfl⟩
 refine o_cutN 3 (J := fun tm H => S wm 17 tm H [(9, .bool c1), (0, .int .i32 r1)] [] Fr) ?_ ?_
 ·rcases Bool.eq_false_or_eq_true (decide (0 ≤ r1)) with hg1 | hg1
  ·refine o_pure hS (.inr ⟨_, _, _, _, rfl, rfl, rfl, hg1⟩) rfl rfl ?_; clear hS
   intro tm hS
   refine o_pure hS (.inr ⟨_, _, _, _, rfl, rfl, rfl, hg1⟩) rfl rfl ?_; clear hS
   intro tm hS
   refine o_pickT hS (.inl rfl) rfl rfl hg1 rfl ?_; clear hS
   intro tm hS
   have hc1 : c1 = (decide (r1 < 55296)) := hc1.trans (by rw [hg1]; first | rfl | simp)
   subst hc1
   exact o_nil (hS.keep (k2 rfl rfl) (fun hI => (hI.sub sn)))
  ·refine o_skip hS rfl rfl rfl hg1 ?_; clear hS
   intro tm hS
   refine o_skip hS rfl rfl rfl hg1 ?_; clear hS
   intro tm hS
   refine o_pickF hS (.inl rfl) rfl rfl hg1 rfl ?_; clear hS
   intro tm hS
   have hc1 : c1 = false := hc1.trans (by rw [hg1]; first | rfl | simp)
   subst hc1
   exact o_nil (hS.keep (k2 rfl rfl) (fun hI => (hI.sub sn)))
 intro tm H hS
 subst hc1
 refine pp1 hS rfl rfl ?_; clear hS
 intro tm hS
 refine o_nil (hR _ _ ?_)
 clear hR R
 refine c_cond hS rfl (fun hc => ?_) (fun hc => ?_)
 ·replace h0 := iteT hc h0
  refine cr1 hS rfl rfl ?_; clear hS
  intro tm hS
  refine wpC.ret ?_
  obtain rfl := Option.some.inj h0
  refine Exists.intro _ (And.intro (rs_tmp hS rfl rs_nil) ?_)
  have hI := hS.inv
  exact ⟨rfl, (hI.sub sn)⟩
 ·replace h0 := iteF hc h0
  refine c_reg fun R hR => ?_
  refine pp3 hS rfl rfl rfl rfl rfl rfl ?_; clear hS
  intro tm hS
  obtain ⟨c2, hc2⟩ : ∃ x : Bool, x = ((decide (57343 < r1)) && (decide (r1 ≤ 1114111))) := ⟨_, rfl⟩
  refine o_cutN 3 (J := fun tm H => S wm 17 tm H [(16, .bool c2)] [] Fr) ?_ ?_
  ·rcases Bool.eq_false_or_eq_true (decide (57343 < r1)) with hg2 | hg2
   ·refine o_pure hS (.inr ⟨_, _, _, _, rfl, rfl, rfl, hg2⟩) rfl rfl ?_; clear hS
    intro tm hS
    refine o_pure hS (.inr ⟨_, _, _, _, rfl, rfl, rfl, hg2⟩) rfl rfl ?_; clear hS
    intro tm hS
    refine o_pickT hS (.inl rfl) rfl rfl hg2 rfl ?_; clear hS
    intro tm hS
    have hc2 : c2 = (decide (r1 ≤ 1114111)) := hc2.trans (by rw [hg2]; first | rfl | simp)
    subst hc2
    exact o_nil (hS.keep (ka_cons rfl ka_nil) (fun hI => (hI.sub sn)))
   ·refine o_skip hS rfl rfl rfl hg2 ?_; clear hS
    intro tm hS
    refine o_skip hS rfl rfl rfl hg2 ?_; clear hS
    intro tm hS
    refine o_pickF hS (.inl rfl) rfl rfl hg2 rfl ?_; clear hS
    intro tm hS
    have hc2 : c2 = false := hc2.trans (by rw [hg2]; first | rfl | simp)
    subst hc2
    exact o_nil (hS.keep (ka_cons rfl ka_nil) (fun hI => (hI.sub sn)))
  intro tm H hS
  subst hc2
  refine pp1 hS rfl rfl ?_; clear hS
  intro tm hS
  refine o_nil (hR _ _ ?_)
  clear hR R
  refine c_cond hS rfl (fun hc => ?_) (fun hc => ?_)
  ·replace h0 := iteT hc h0
   refine cr1 hS rfl rfl ?_; clear hS
   intro tm hS
   refine wpC.ret ?_
   obtain rfl := Option.some.inj h0
   refine Exists.intro _ (And.intro (rs_tmp hS rfl rs_nil) ?_)
   have hI := hS.inv
   exact ⟨rfl, (hI.sub sn)⟩
  ·replace h0 := iteF hc h0
   refine wpC.skip ?_
   refine cr1 hS rfl rfl ?_; clear hS
   intro tm hS
   refine wpC.ret ?_
   obtain rfl := Option.some.inj h0
   refine Exists.intro _ (And.intro (rs_tmp hS rfl rs_nil) ?_)
   have hI := hS.inv
   exact ⟨rfl, (hI.sub sn)⟩
theorem wk82 {wm : Nat} {H : AHeap} {Fr : List Ent}  (n1 : Int)   (hI : Kn wm H [] Fr) {r : Bool} (h0 : M.value_character n1 = some r) :
  wpF Try.prog ora wm 82 [.int .i64 n1] H (fun res H => res = .bool r ∧ Kn wm H [] Fr) := by
 unfold M.value_character at h0
 refine f_enter (n := 14) Try.func82 rfl (by simp) hI rfl rfl rfl fun tm hS => ?_
 clear hI
 refine cr1 hS rfl rfl ?_; clear hS
 intro tm hS
 refine c_reg fun R hR => ?_
 refine pp3 hS rfl rfl rfl rfl rfl rfl ?_; clear hS
 intro tm hS
 obtain ⟨c1, hc1⟩ : ∃ x : Bool, x = ((decide (n1 ≥ 0)) && (decide (n1 ≤ 1114111))) := ⟨_, rfl⟩
 refine o_cutN 3 (J := fun tm H => S wm 14 tm H [(8, .bool c1), (0, .int .i64 n1)] [] Fr) ?_ ?_
 ·rcases Bool.eq_false_or_eq_true (decide (n1 ≥ 0)) with hg1 | hg1
  ·refine o_pure hS (.inr ⟨_, _, _, _, rfl, rfl, rfl, hg1⟩) rfl rfl ?_; clear hS
   intro tm hS
   refine o_pure hS (.inr ⟨_, _, _, _, rfl, rfl, rfl, hg1⟩) rfl rfl ?_; clear hS
   intro tm hS
   refine o_pickT hS (.inl rfl) rfl rfl hg1 rfl ?_; clear hS
   intro tm hS
   have hc1 : c1 = (decide (n1 ≤ 1114111)) := hc1.trans (by rw [hg1]; first | rfl | simp)
   subst hc1
   exact o_nil (hS.keep (k2 rfl rfl) (fun hI => (hI.sub sn)))
  ·refine o_skip hS rfl rfl rfl hg1 ?_; clear hS
   intro tm hS
   refine o_skip hS rfl rfl rfl hg1 ?_; clear hS
   intro tm hS
   refine o_pickF hS (.inl rfl) rfl rfl hg1 rfl ?_; clear hS
   intro tm hS
   have hc1 : c1 = false := hc1.trans (by rw [hg1]; first | rfl | simp)
   subst hc1
   exact o_nil (hS.keep (k2 rfl rfl) (fun hI => (hI.sub sn)))
 intro tm H hS
 subst hc1
 refine pp1 hS rfl rfl ?_; clear hS
 intro tm hS
 obtain ⟨c2, hc2, h0⟩ := bindS h0
 refine o_cutN 4 (J := fun tm H => S wm 14 tm H [(13, .bool c2)] [] Fr) ?_ ?_
 ·rcases Bool.eq_false_or_eq_true ((decide (n1 ≥ 0)) && (decide (n1 ≤ 1114111))) with hg2 | hg2
  ·replace hc2 := iteT hg2 hc2
   refine o_pure hS (.inr ⟨_, _, _, _, rfl, rfl, rfl, hg2⟩) rfl rfl ?_; clear hS
   intro tm hS
   refine o_pure hS (.inr ⟨_, _, _, _, rfl, rfl, rfl, hg2⟩) rfl rfl ?_; clear hS
   intro tm hS
   obtain ⟨r1, hx1, hc2⟩ := bindS hc2
   refine o_call hS (.inr ⟨_, _, _, _, rfl, rfl, rfl, hg2⟩) rfl (fun wm' hw1 hw2 => wk99  (IntKind.i32.wrap n1)   (hS.sel hw2) hx1) (fun wm' res H hw' hp => ?_)
   obtain ⟨hres, hI⟩ := hp
   replace hres := hres.symm; subst hres
   replace hS : S wm 14 _ H ((12, .bool r1) :: _) ([] ++ _) Fr := hS.after rfl hw' hI
   clear hI hw'
   refine o_pickT hS (.inl rfl) rfl rfl hg2 rfl ?_; clear hS
   intro tm hS
   obtain rfl := Option.some.inj hc2
   exact o_nil (hS.keep (ka_cons rfl ka_nil) (fun hI => (hI.sub sn)))
  ·replace hc2 := iteF hg2 hc2
   refine o_skip hS rfl rfl rfl hg2 ?_; clear hS
   intro tm hS
   refine o_skip hS rfl rfl rfl hg2 ?_; clear hS
   intro tm hS
   refine o_skip hS rfl rfl rfl hg2 ?_; clear hS
   intro tm hS
   refine o_pickF hS (.inl rfl) rfl rfl hg2 rfl ?_; clear hS
   intro tm hS
   obtain rfl := Option.some.inj hc2
   exact o_nil (hS.keep (ka_cons rfl ka_nil) (fun hI => (hI.sub sn)))
 intro tm H hS
 refine pp1 hS rfl rfl ?_; clear hS
 intro tm hS
 refine o_nil (hR _ _ ?_)
 clear hR R
 refine wpC.ret ?_
 obtain rfl := Option.some.inj h0
 refine Exists.intro _ (And.intro (rs_tmp hS rfl rs_nil) ?_)
 have hI := hS.inv
 exact ⟨rfl, (hI.sub sn)⟩
theorem wk81 {wm : Nat} {H : AHeap} {Fr : List Ent}  (n1 : Int)   (hI : Kn wm H [] Fr) {r : Bool} (h0 : M.value_Right_1 n1 = some r) :
  wpF Try.prog ora wm 81 [.int .i64 n1] H (fun res H => res = .bool r ∧ Kn wm H [] Fr) := by
 unfold M.value_Right_1 at h0
 refine f_enter (n := 6) Try.func81 rfl (by simp) hI rfl rfl rfl fun tm hS => ?_
 clear hI
 refine cr1 hS rfl rfl ?_; clear hS
 intro tm hS
 refine c_reg fun R hR => ?_
 refine pp1 hS rfl rfl ?_; clear hS
 intro tm hS
 obtain ⟨r1, hx1, h0⟩ := bindS h0
 refine o_call hS (.inl rfl) rfl (fun wm' hw1 hw2 => wk82  n1   (hS.sel hw2) hx1) (fun wm' res H hw' hp => ?_)
 obtain ⟨hres, hI⟩ := hp
 replace hres := hres.symm; subst hres
 replace hS : S wm 6 _ H ((4, .bool r1) :: _) ([] ++ _) Fr := hS.after rfl hw' hI
 clear hI hw'
 refine pp2 hS rfl rfl rfl rfl ?_; clear hS
 intro tm hS
 refine o_nil (hR _ _ ?_)
 clear hR R
 refine wpC.ret ?_
 obtain rfl := Option.some.inj h0
 refine Exists.intro _ (And.intro (rs_tmp hS rfl rs_nil) ?_)
 have hI := hS.inv
 exact ⟨rfl, (hI.sub sn)⟩
theorem wk53 {wm : Nat} {H : AHeap} {Fr : List Ent}  (v1 : Val)  (v2 : Value) (v3 : Value) (hI : Kn wm H [.fz (rI .i64) v2 v1.Shape, .fz (rI .i64) v3 v1.Data] Fr) {r : Bool} (h0 : M.value_Right v1 = some r) :
  wpF Try.prog ora wm 53 [.agg #[.bool v1.Char, v2, v3]] H (fun res H => res = .bool r ∧ Kn wm H [] Fr) := by
 unfold M.value_Right at h0
 refine f_enter (n := 45) Try.func53 rfl (by simp) hI rfl rfl rfl fun tm hS => ?_
 clear hI
 refine c_reg fun R hR => ?_
 refine o_box hS (.inl rfl) rfl rfl rfl (all_cons rfl (all_cons (hS.one (k := 0) rfl (.inl rfl)) (all_cons (hS.one (k := 1) rfl (.inl rfl)) all_nil))) ?_; clear hS
 intro b1 tm H hS
 refine pp1 hS rfl rfl ?_; clear hS
 intro tm hS
 refine o_nil (hR _ _ ?_)
 clear hR R
 refine c_seqS ?_
 refine c_reg fun R hR => ?_
 refine pp1 hS rfl rfl ?_; clear hS
 intro tm hS
 refine o_ld1 (k := 0) hS (.inl rfl) rfl rfl rfl (.inl rfl) Fu22 rfl rfl ?_; clear hS
 intro tm hS
 refine o_len (k := 1) (r := (rI .i64)) hS (.inl rfl) rfl rfl rfl (.inl rfl) Fu22 rfl ?_; clear hS
 intro tm hS
 refine pp1 hS rfl rfl ?_; clear hS
 intro tm hS
 refine o_nil (hR _ _ ?_)
 clear hR R
 refine c_cond hS rfl (fun hc => ?_) (fun hc => ?_)
 ·replace h0 := iteT hc h0
  refine cr1 hS rfl rfl ?_; clear hS
  intro tm hS
  refine wpC.ret ?_
  obtain rfl := Option.some.inj h0
  refine Exists.intro _ (And.intro (rs_tmp hS rfl rs_nil) ?_)
  have hI := hS.inv
  exact ⟨rfl, (hI.sub sn)⟩
 ·replace h0 := iteF hc h0
  refine wpC.skip ?_
  refine cr1 hS rfl rfl ?_; clear hS
  intro tm hS
  refine c_seqS ?_
  refine c_reg fun R hR => ?_
  refine pp1 hS rfl rfl ?_; clear hS
  intro tm hS
  refine o_ld1 (k := 0) hS (.inl rfl) rfl rfl rfl (.inl rfl) Fu22 rfl rfl ?_; clear hS
  intro tm hS
  refine o_len (k := 1) (r := (rI .i64)) hS (.inl rfl) rfl rfl rfl (.inl rfl) Fu22 rfl ?_; clear hS
  intro tm hS
  refine pp1 hS rfl rfl ?_; clear hS
  intro tm hS
  refine o_nil (hR _ _ ?_)
  clear hR R
  obtain ⟨k1, hw1, h0⟩ := bindS h0
  refine wpC.block ?_
  refine c_loop (I := fun (s : Int × Int) tm H => match (generalizing := false) s with | (size1, t1) => S wm 45 tm H [(1, .pointer (some ⟨b1, 0, none⟩)), (3, .int .i64 size1), (11, v2), (12, .int .i64 (v1.Shape.length : Int)), (13, .int .i64 t1)] [.box b1 [.bool v1.Char, v2, v3], .fz (rI .i64) v2 v1.Shape, .fz (rI .i64) v3 v1.Data] Fr) hw1 (by change S wm 45 _ _ _ _ Fr; exact hS.keep (k5 rfl rfl rfl rfl rfl) (fun hI => (hI.sub (sc (sc (sc sn)))))) ?_
  clear hS
  intro s1 tm H c1 hS h1 hq1
  obtain ⟨size1, t1⟩ := s1
  change S wm 45 tm H [(1, .pointer (some ⟨b1, 0, none⟩)), (3, .int .i64 size1), (11, v2), (12, .int .i64 (v1.Shape.length : Int)), (13, .int .i64 t1)] [.box b1 [.bool v1.Char, v2, v3], .fz (rI .i64) v2 v1.Shape, .fz (rI .i64) v3 v1.Data] Fr at hS
  refine cr1 hS rfl rfl ?_; clear hS
  intro tm hS
  refine c_seqS ?_
  refine c_cond hS rfl (fun hc => ?_) (fun hc => ?_)
  ·replace h1 := iteT hc h1
   refine wpC.skip ?_
   refine c_seqS ?_
   refine wpC.block ?_
   refine c_reg fun R hR => ?_
   obtain ⟨y1, hx1, h1⟩ := bindS h1
   refine o_ixA (k := 1) (r := (rI .i64)) hS (.inl rfl) rfl rfl rfl rfl (.inl rfl) Fu22 Fs3 hx1 ?_; clear hS
   intro tm hS
   refine o_ldF (r := (rI .i64)) (k := 1) hS (.inl rfl) rfl rfl rfl (.inl rfl) hx1 Fu3 rfl (flat_I _) rfl ?_; clear hS
   intro tm hS
   refine pp1 hS rfl rfl ?_; clear hS
   intro tm hS
   refine o_nil (hR _ _ ?_)
   clear hR R
   refine c_seqS ?_
   refine c_reg fun R hR => ?_
   refine pp3 hS rfl rfl rfl rfl rfl rfl ?_; clear hS
   intro tm hS
   obtain ⟨c2, hc1⟩ : ∃ x : Bool, x = ((decide (y1 < 0)) || (decide (y1 > 10000))) := ⟨_, rfl⟩
   refine o_cutN 3 (J := fun tm H => S wm 45 tm H [(22, .bool c2), (1, .pointer (some ⟨b1, 0, none⟩)), (3, .int .i64 size1), (11, v2), (12, .int .i64 (v1.Shape.length : Int)), (13, .int .i64 t1), (5, .int .i64 y1)] [.box b1 [.bool v1.Char, v2, v3], .fz (rI .i64) v2 v1.Shape, .fz (rI .i64) v3 v1.Data] Fr) ?_ ?_
   ·rcases Bool.eq_false_or_eq_true (decide (y1 < 0)) with hg1 | hg1
    ·refine o_skip hS rfl rfl rfl hg1 ?_; clear hS
     intro tm hS
     refine o_skip hS rfl rfl rfl hg1 ?_; clear hS
     intro tm hS
     refine o_pickT hS (.inl rfl) rfl rfl hg1 rfl ?_; clear hS
     intro tm hS
     have hc1 : c2 = true := hc1.trans (by rw [hg1]; first | rfl | simp)
     subst hc1
     exact o_nil (hS.keep (k7 rfl rfl rfl rfl rfl rfl rfl) (fun hI => (hI.sub (sc (sc (sc sn))))))
    ·refine o_pure hS (.inr ⟨_, _, _, _, rfl, rfl, rfl, hg1⟩) rfl rfl ?_; clear hS
     intro tm hS
     refine o_pure hS (.inr ⟨_, _, _, _, rfl, rfl, rfl, hg1⟩) rfl rfl ?_; clear hS
     intro tm hS
     refine o_pickF hS (.inl rfl) rfl rfl hg1 rfl ?_; clear hS
     intro tm hS
     have hc1 : c2 = (decide (y1 > 10000)) := hc1.trans (by rw [hg1]; first | rfl | simp)
     subst hc1
     exact o_nil (hS.keep (k7 rfl rfl rfl rfl rfl rfl rfl) (fun hI => (hI.sub (sc (sc (sc sn))))))
   intro tm H hS
   subst hc1
   refine o_nil (hR _ _ ?_)
   clear hR R
   refine c_cond hS rfl (fun hc => ?_) (fun hc => ?_)
   ·replace h1 := iteT hc h1
    refine cr1 hS rfl rfl ?_; clear hS
    intro tm hS
    refine wpC.ret ?_
    obtain rfl := Option.some.inj h1
    obtain rfl := hq1 _ rfl
    refine And.intro rfl ?_
    obtain rfl := leave h0
    refine Exists.intro _ (And.intro (rs_tmp hS rfl rs_nil) ?_)
    have hI := hS.inv
    exact ⟨rfl, (hI.sub sn)⟩
   ·replace h1 := iteF hc h1
    refine wpC.skip ?_
    refine c_reg1 fun R hR => ?_
    refine pp4 hS rfl rfl rfl rfl rfl rfl rfl rfl ?_; clear hS
    intro tm hS
    refine o_nil (hR _ _ ?_)
    clear hR R
    refine cs2 hS rfl rfl rfl rfl ?_; clear hS
    intro tm hS
    obtain rfl := Option.some.inj h1
    refine ⟨_, rfl, ?_⟩
    change S wm 45 _ _ _ _ Fr; exact hS.keep (k5 rfl rfl rfl rfl rfl) (fun hI => (hI.sub (sc (sc (sc sn)))))
  ·replace h1 := iteF hc h1
   refine wpC.exit ?_
   refine seqX ?_
   obtain rfl := Option.some.inj h1
   obtain rfl := hq1 _ rfl
   refine And.intro rfl (blk_eq ?_)
   replace h0 := joinN h0
   refine c_seqS ?_
   refine c_reg fun R hR => ?_
   refine pp3 hS rfl rfl rfl rfl rfl rfl ?_; clear hS
   intro tm hS
   obtain ⟨c3, hc2⟩ : ∃ x : Bool, x = ((decide (size1 > 10000)) || (size1 != (v1.Data.length : Int))) := ⟨_, rfl⟩
   refine o_cutN 6 (J := fun tm H => S wm 45 tm H [(35, .bool c3), (1, .pointer (some ⟨b1, 0, none⟩))] [.box b1 [.bool v1.Char, v2, v3], .fz (rI .i64) v2 v1.Shape, .fz (rI .i64) v3 v1.Data] Fr) ?_ ?_
   ·rcases Bool.eq_false_or_eq_true (decide (size1 > 10000)) with hg2 | hg2
    ·refine o_skip hS rfl rfl rfl hg2 ?_; clear hS
     intro tm hS
     refine o_skip hS rfl rfl rfl hg2 ?_; clear hS
     intro tm hS
     refine o_skip hS rfl rfl rfl hg2 ?_; clear hS
     intro tm hS
     refine o_skip hS rfl rfl rfl hg2 ?_; clear hS
     intro tm hS
     refine o_skip hS rfl rfl rfl hg2 ?_; clear hS
     intro tm hS
     refine o_pickT hS (.inl rfl) rfl rfl hg2 rfl ?_; clear hS
     intro tm hS
     have hc2 : c3 = true := hc2.trans (by rw [hg2]; first | rfl | simp)
     subst hc2
     exact o_nil (hS.keep (k2 rfl rfl) (fun hI => (hI.sub (sc (sc (sc sn))))))
    ·refine o_pure hS (.inr ⟨_, _, _, _, rfl, rfl, rfl, hg2⟩) rfl rfl ?_; clear hS
     intro tm hS
     refine o_pure hS (.inr ⟨_, _, _, _, rfl, rfl, rfl, hg2⟩) rfl rfl ?_; clear hS
     intro tm hS
     refine o_ld1 (k := 0) hS (.inr ⟨_, _, _, _, rfl, rfl, rfl, hg2⟩) rfl rfl rfl (.inl rfl) Fu23 rfl rfl ?_; clear hS
     intro tm hS
     refine o_len (k := 2) (r := (rI .i64)) hS (.inr ⟨_, _, _, _, rfl, rfl, rfl, hg2⟩) rfl rfl rfl (.inl rfl) Fu23 rfl ?_; clear hS
     intro tm hS
     refine o_pure hS (.inr ⟨_, _, _, _, rfl, rfl, rfl, hg2⟩) rfl rfl ?_; clear hS
     intro tm hS
     refine o_pickF hS (.inl rfl) rfl rfl hg2 rfl ?_; clear hS
     intro tm hS
     have hc2 : c3 = (size1 != (v1.Data.length : Int)) := hc2.trans (by rw [hg2]; first | rfl | simp)
     subst hc2
     exact o_nil (hS.keep (k2 rfl rfl) (fun hI => (hI.sub (sc (sc (sc sn))))))
   intro tm H hS
   subst hc2
   refine o_nil (hR _ _ ?_)
   clear hR R
   refine c_cond hS rfl (fun hc => ?_) (fun hc => ?_)
   ·replace h0 := iteT hc h0
    refine cr1 hS rfl rfl ?_; clear hS
    intro tm hS
    refine wpC.ret ?_
    obtain rfl := Option.some.inj h0
    refine Exists.intro _ (And.intro (rs_tmp hS rfl rs_nil) ?_)
    have hI := hS.inv
    exact ⟨rfl, (hI.sub sn)⟩
   ·replace h0 := iteF hc h0
    refine wpC.skip ?_
    refine c_reg fun R hR => ?_
    refine pp1 hS rfl rfl ?_; clear hS
    intro tm hS
    refine o_ld1 (k := 0) hS (.inl rfl) rfl rfl rfl (.inl rfl) Fu4 rfl rfl ?_; clear hS
    intro tm hS
    refine pp2 hS rfl rfl rfl rfl ?_; clear hS
    intro tm hS
    obtain ⟨c4, hc3, h0⟩ := bindS h0
    refine o_cutN 5 (J := fun tm H => S wm 45 tm H [(44, .bool c4)] [] Fr) ?_ ?_
    ·rcases Bool.eq_false_or_eq_true (!v1.Char) with hg3 | hg3
     ·replace hc3 := iteT hg3 hc3
      refine o_skip hS rfl rfl rfl hg3 ?_; clear hS
      intro tm hS
      refine o_skip hS rfl rfl rfl hg3 ?_; clear hS
      intro tm hS
      refine o_skip hS rfl rfl rfl hg3 ?_; clear hS
      intro tm hS
      refine o_skip hS rfl rfl rfl hg3 ?_; clear hS
      intro tm hS
      refine o_pickT hS (.inl rfl) rfl rfl hg3 rfl ?_; clear hS
      intro tm hS
      obtain rfl := Option.some.inj hc3
      exact o_nil (hS.keep (ka_cons rfl ka_nil) (fun hI => (hI.sub sn)))
     ·replace hc3 := iteF hg3 hc3
      refine o_pure hS (.inr ⟨_, _, _, _, rfl, rfl, rfl, hg3⟩) rfl rfl ?_; clear hS
      intro tm hS
      refine o_ld1 (k := 0) hS (.inr ⟨_, _, _, _, rfl, rfl, rfl, hg3⟩) rfl rfl rfl (.inl rfl) Fu23 rfl rfl ?_; clear hS
      intro tm hS
      obtain ⟨r1, hx2, hc3⟩ := bindS hc3
      refine o_call hS (.inr ⟨_, _, _, _, rfl, rfl, rfl, hg3⟩) rfl (fun wm' hw1 hw2 => wk80  v1.Data (fun x0 => M.value_Right_1 x0) 81 #[] [] (by simp [Ent.blk]) (fun x0 hI _ h0 => wk81  x0   hI h0) v3 ((hS.sel hw2).ad 2 rfl) hx2) (fun wm' res H hw' hp => ?_)
      obtain ⟨hres, hI⟩ := hp
      replace hres := hres.symm; subst hres
      replace hS : S wm 45 _ H ((42, .bool r1) :: _) ([] ++ _) Fr := hS.after rfl hw' hI
      clear hI hw'
      refine o_pure hS (.inr ⟨_, _, _, _, rfl, rfl, rfl, hg3⟩) rfl rfl ?_; clear hS
      intro tm hS
      refine o_pickF hS (.inl rfl) rfl rfl hg3 rfl ?_; clear hS
      intro tm hS
      obtain rfl := Option.some.inj hc3
      exact o_nil (hS.keep (ka_cons rfl ka_nil) (fun hI => (hI.sub sn)))
    intro tm H hS
    refine pp1 hS rfl rfl ?_; clear hS
    intro tm hS
    refine o_nil (hR _ _ ?_)
    clear hR R
    refine wpC.ret ?_
    obtain rfl := Option.some.inj h0
    refine Exists.intro _ (And.intro (rs_tmp hS rfl rs_nil) ?_)
    have hI := hS.inv
    exact ⟨rfl, (hI.sub sn)⟩
theorem wk60 {wm : Nat} {H : AHeap} {Fr : List Ent}  (v1 : Val)  (v2 : Value) (v3 : Value) (hI : Kn wm H [.fz (rI .i64) v2 v1.Shape, .fz (rI .i64) v3 v1.Data] Fr) {r : Bool} (h0 : M.over_takes_1 v1 = some r) :
  wpF Try.prog ora wm 60 [.agg #[.bool v1.Char, v2, v3]] H (fun res H => res = .bool r ∧ Kn wm H [] Fr) := by
 unfold M.over_takes_1 at h0
 refine f_enter (n := 6) Try.func60 rfl (by simp) hI rfl rfl rfl fun tm hS => ?_
 clear hI
 refine c_reg fun R hR => ?_
 refine o_box hS (.inl rfl) rfl rfl rfl (all_cons rfl (all_cons (hS.one (k := 0) rfl (.inl rfl)) (all_cons (hS.one (k := 1) rfl (.inl rfl)) all_nil))) ?_; clear hS
 intro b1 tm H hS
 refine pp1 hS rfl rfl ?_; clear hS
 intro tm hS
 refine o_nil (hR _ _ ?_)
 clear hR R
 refine c_reg fun R hR => ?_
 refine o_ldA (k := 0) hS (.inl rfl) rfl rfl rfl (.inl rfl) Fu25 rfl Fs25 rfl ?_; clear hS
 intro tm hS
 obtain ⟨r1, hx1, h0⟩ := bindS h0
 refine o_call hS (.inl rfl) rfl (fun wm' hw1 hw2 => wk53  v1  v2 v3 (((hS.sel hw2).ad 2 rfl).ad 1 rfl) hx1) (fun wm' res H hw' hp => ?_)
 obtain ⟨hres, hI⟩ := hp
 replace hres := hres.symm; subst hres
 replace hS : S wm 6 _ H ((4, .bool r1) :: _) ([] ++ _) Fr := hS.after rfl hw' hI
 clear hI hw'
 refine pp2 hS rfl rfl rfl rfl ?_; clear hS
 intro tm hS
 refine o_nil (hR _ _ ?_)
 clear hR R
 refine wpC.ret ?_
 obtain rfl := Option.some.inj h0
 refine Exists.intro _ (And.intro (rs_tmp hS rfl rs_nil) ?_)
 have hI := hS.inv
 exact ⟨rfl, (hI.sub sn)⟩
theorem wk69 {wm : Nat} {H : AHeap} {Fr : List Ent}  (fn1 : ByteArray)   (hI : Kn wm H [] Fr) {r : Int × Int} (h0 : M.ints_Identity fn1 = some r) :
  wpF Try.prog ora wm 69 [.string fn1] H (fun res H => res = .tuple #[.int .i64 r.1, .int .i64 r.2] ∧ Kn wm H [] Fr) := by
 unfold M.ints_Identity at h0
 refine f_enter (n := 29) Try.func69 rfl (by simp) hI rfl rfl rfl fun tm hS => ?_
 clear hI
 refine cr2 hS rfl rfl rfl rfl ?_; clear hS
 intro tm hS
 refine c_seqS ?_
 refine cr1 hS rfl rfl ?_; clear hS
 intro tm hS
 refine wpC.block ?_
 obtain ⟨t1, h1, h0⟩ := bindS h0
 refine c_seqJ (J := fun tm H => (match (generalizing := false) t1 with | t1 => S wm 29 tm H [(4, .string fn1), (5, .bool t1)] [] Fr)) ?_ ?_
 ·refine cr2 hS rfl rfl rfl rfl ?_; clear hS
  intro tm hS
  refine c_cond hS rfl (fun hc => ?_) (fun hc => ?_)
  ·replace h1 := iteT hc h1
   refine wpC.skip ?_
   obtain rfl := Option.some.inj h1
   change S wm 29 _ _ _ _ Fr; exact hS.keep (k2 rfl rfl) (fun hI => (hI.sub sn))
  ·replace h1 := iteF hc h1
   refine cr2 hS rfl rfl rfl rfl ?_; clear hS
   intro tm hS
   refine c_cond hS rfl (fun hc => ?_) (fun hc => ?_)
   ·replace h1 := iteT hc h1
    refine wpC.skip ?_
    obtain rfl := Option.some.inj h1
    change S wm 29 _ _ _ _ Fr; exact hS.keep (k2 rfl rfl) (fun hI => (hI.sub sn))
   ·replace h1 := iteF hc h1
    refine cr2 hS rfl rfl rfl rfl ?_; clear hS
    intro tm hS
    refine c_cond hS rfl (fun hc => ?_) (fun hc => ?_)
    ·replace h1 := iteT hc h1
     refine wpC.skip ?_
     obtain rfl := Option.some.inj h1
     change S wm 29 _ _ _ _ Fr; exact hS.keep (k2 rfl rfl) (fun hI => (hI.sub sn))
    ·replace h1 := iteF hc h1
     refine cr2 hS rfl rfl rfl rfl ?_; clear hS
     intro tm hS
     refine c_cond hS rfl (fun hc => ?_) (fun hc => ?_)
     ·replace h1 := iteT hc h1
      refine wpC.skip ?_
      obtain rfl := Option.some.inj h1
      change S wm 29 _ _ _ _ Fr; exact hS.keep (k2 rfl rfl) (fun hI => (hI.sub sn))
     ·replace h1 := iteF hc h1
      refine cr2 hS rfl rfl rfl rfl ?_; clear hS
      intro tm hS
      refine c_cond hS rfl (fun hc => ?_) (fun hc => ?_)
      ·replace h1 := iteT hc h1
       refine wpC.skip ?_
       obtain rfl := Option.some.inj h1
       change S wm 29 _ _ _ _ Fr; exact hS.keep (k2 rfl rfl) (fun hI => (hI.sub sn))
      ·replace h1 := iteF hc h1
       refine cr2 hS rfl rfl rfl rfl ?_; clear hS
       intro tm hS
       refine c_cond hS rfl (fun hc => ?_) (fun hc => ?_)
       ·replace h1 := iteT hc h1
        refine wpC.skip ?_
        obtain rfl := Option.some.inj h1
        change S wm 29 _ _ _ _ Fr; exact hS.keep (k2 rfl rfl) (fun hI => (hI.sub sn))
       ·replace h1 := iteF hc h1
        refine cs2 hS rfl rfl rfl rfl ?_; clear hS
        intro tm hS
        obtain rfl := Option.some.inj h1
        change S wm 29 _ _ _ _ Fr; exact hS.keep (k2 rfl rfl) (fun hI => (hI.sub sn))
 intro tm H hS
 change S wm 29 tm H [(4, .string fn1), (5, .bool t1)] [] Fr at hS
 refine c_cond hS rfl (fun hc => ?_) (fun hc => ?_)
 ·replace h0 := iteT hc h0
  refine cr2 hS rfl rfl rfl rfl ?_; clear hS
  intro tm hS
  refine wpC.ret ?_
  obtain rfl := Option.some.inj h0
  refine Exists.intro _ (And.intro (rs_tmp hS rfl (rs_tmp hS rfl rs_nil)) ?_)
  have hI := hS.inv
  exact ⟨rfl, (hI.sub sn)⟩
 ·replace h0 := iteF hc h0
  obtain ⟨t2, h2, h0⟩ := bindS h0
  refine c_seqJ (J := fun tm H => (match (generalizing := false) t2 with | t2 => S wm 29 tm H [(4, .string fn1), (13, .bool t2)] [] Fr)) ?_ ?_
  ·refine cr2 hS rfl rfl rfl rfl ?_; clear hS
   intro tm hS
   refine c_cond hS rfl (fun hc => ?_) (fun hc => ?_)
   ·replace h2 := iteT hc h2
    refine wpC.skip ?_
    obtain rfl := Option.some.inj h2
    change S wm 29 _ _ _ _ Fr; exact hS.keep (k2 rfl rfl) (fun hI => (hI.sub sn))
   ·replace h2 := iteF hc h2
    refine cr2 hS rfl rfl rfl rfl ?_; clear hS
    intro tm hS
    refine c_cond hS rfl (fun hc => ?_) (fun hc => ?_)
    ·replace h2 := iteT hc h2
     refine wpC.skip ?_
     obtain rfl := Option.some.inj h2
     change S wm 29 _ _ _ _ Fr; exact hS.keep (k2 rfl rfl) (fun hI => (hI.sub sn))
    ·replace h2 := iteF hc h2
     refine cr2 hS rfl rfl rfl rfl ?_; clear hS
     intro tm hS
     refine c_cond hS rfl (fun hc => ?_) (fun hc => ?_)
     ·replace h2 := iteT hc h2
      refine wpC.skip ?_
      obtain rfl := Option.some.inj h2
      change S wm 29 _ _ _ _ Fr; exact hS.keep (k2 rfl rfl) (fun hI => (hI.sub sn))
     ·replace h2 := iteF hc h2
      refine cr2 hS rfl rfl rfl rfl ?_; clear hS
      intro tm hS
      refine c_cond hS rfl (fun hc => ?_) (fun hc => ?_)
      ·replace h2 := iteT hc h2
       refine wpC.skip ?_
       obtain rfl := Option.some.inj h2
       change S wm 29 _ _ _ _ Fr; exact hS.keep (k2 rfl rfl) (fun hI => (hI.sub sn))
      ·replace h2 := iteF hc h2
       refine cr2 hS rfl rfl rfl rfl ?_; clear hS
       intro tm hS
       refine c_cond hS rfl (fun hc => ?_) (fun hc => ?_)
       ·replace h2 := iteT hc h2
        refine wpC.skip ?_
        obtain rfl := Option.some.inj h2
        change S wm 29 _ _ _ _ Fr; exact hS.keep (k2 rfl rfl) (fun hI => (hI.sub sn))
       ·replace h2 := iteF hc h2
        refine cr2 hS rfl rfl rfl rfl ?_; clear hS
        intro tm hS
        refine c_cond hS rfl (fun hc => ?_) (fun hc => ?_)
        ·replace h2 := iteT hc h2
         refine wpC.skip ?_
         obtain rfl := Option.some.inj h2
         change S wm 29 _ _ _ _ Fr; exact hS.keep (k2 rfl rfl) (fun hI => (hI.sub sn))
        ·replace h2 := iteF hc h2
         refine cr2 hS rfl rfl rfl rfl ?_; clear hS
         intro tm hS
         refine c_cond hS rfl (fun hc => ?_) (fun hc => ?_)
         ·replace h2 := iteT hc h2
          refine wpC.skip ?_
          obtain rfl := Option.some.inj h2
          change S wm 29 _ _ _ _ Fr; exact hS.keep (k2 rfl rfl) (fun hI => (hI.sub sn))
         ·replace h2 := iteF hc h2
          refine cs2 hS rfl rfl rfl rfl ?_; clear hS
          intro tm hS
          obtain rfl := Option.some.inj h2
          change S wm 29 _ _ _ _ Fr; exact hS.keep (k2 rfl rfl) (fun hI => (hI.sub sn))
  intro tm H hS
  change S wm 29 tm H [(4, .string fn1), (13, .bool t2)] [] Fr at hS
  refine c_cond hS rfl (fun hc => ?_) (fun hc => ?_)
  ·replace h0 := iteT hc h0
   refine cr2 hS rfl rfl rfl rfl ?_; clear hS
   intro tm hS
   refine wpC.ret ?_
   obtain rfl := Option.some.inj h0
   refine Exists.intro _ (And.intro (rs_tmp hS rfl (rs_tmp hS rfl rs_nil)) ?_)
   have hI := hS.inv
   exact ⟨rfl, (hI.sub sn)⟩
  ·replace h0 := iteF hc h0
   refine cr2 hS rfl rfl rfl rfl ?_; clear hS
   intro tm hS
   refine c_cond hS rfl (fun hc => ?_) (fun hc => ?_)
   ·replace h0 := iteT hc h0
    refine cr2 hS rfl rfl rfl rfl ?_; clear hS
    intro tm hS
    refine wpC.ret ?_
    obtain rfl := Option.some.inj h0
    refine Exists.intro _ (And.intro (rs_tmp hS rfl (rs_tmp hS rfl rs_nil)) ?_)
    have hI := hS.inv
    exact ⟨rfl, (hI.sub sn)⟩
   ·replace h0 := iteF hc h0
    refine cr2 hS rfl rfl rfl rfl ?_; clear hS
    intro tm hS
    refine c_cond hS rfl (fun hc => ?_) (fun hc => ?_)
    ·replace h0 := iteT hc h0
     refine cr2 hS rfl rfl rfl rfl ?_; clear hS
     intro tm hS
     refine wpC.ret ?_
     obtain rfl := Option.some.inj h0
     refine Exists.intro _ (And.intro (rs_tmp hS rfl (rs_tmp hS rfl rs_nil)) ?_)
     have hI := hS.inv
     exact ⟨rfl, (hI.sub sn)⟩
    ·replace h0 := iteF hc h0
     obtain ⟨t3, h3, h0⟩ := bindS h0
     refine c_seqJ (J := fun tm H => (match (generalizing := false) t3 with | t3 => S wm 29 tm H [(26, .bool t3)] [] Fr)) ?_ ?_
     ·refine cr2 hS rfl rfl rfl rfl ?_; clear hS
      intro tm hS
      refine c_cond hS rfl (fun hc => ?_) (fun hc => ?_)
      ·replace h3 := iteT hc h3
       refine wpC.skip ?_
       obtain rfl := Option.some.inj h3
       change S wm 29 _ _ _ _ Fr; exact hS.keep (ka_cons rfl ka_nil) (fun hI => (hI.sub sn))
      ·replace h3 := iteF hc h3
       refine cs2 hS rfl rfl rfl rfl ?_; clear hS
       intro tm hS
       obtain rfl := Option.some.inj h3
       change S wm 29 _ _ _ _ Fr; exact hS.keep (ka_cons rfl ka_nil) (fun hI => (hI.sub sn))
     intro tm H hS
     change S wm 29 tm H [(26, .bool t3)] [] Fr at hS
     refine c_cond hS rfl (fun hc => ?_) (fun hc => ?_)
     ·replace h0 := iteT hc h0
      refine cr2 hS rfl rfl rfl rfl ?_; clear hS
      intro tm hS
      refine wpC.ret ?_
      obtain rfl := Option.some.inj h0
      refine Exists.intro _ (And.intro (rs_tmp hS rfl (rs_tmp hS rfl rs_nil)) ?_)
      have hI := hS.inv
      exact ⟨rfl, (hI.sub sn)⟩
     ·replace h0 := iteF hc h0
      refine wpC.skip ?_
      refine cr2 hS rfl rfl rfl rfl ?_; clear hS
      intro tm hS
      refine wpC.ret ?_
      obtain rfl := Option.some.inj h0
      refine Exists.intro _ (And.intro (rs_tmp hS rfl (rs_tmp hS rfl rs_nil)) ?_)
      have hI := hS.inv
      exact ⟨rfl, (hI.sub sn)⟩
theorem wk88 {wm : Nat} {H : AHeap} {Fr : List Ent}  (fn1 : ByteArray) (a1 : Am.Item) (b1 : Am.Item)   (hI : Kn wm H [] Fr) {r : Am.Item × Int} (h0 : M.over_characters fn1 a1 b1 = some r) :
  wpF Try.prog ora wm 88 [.string fn1, .agg #[.int .i64 a1.n, .bool a1.char], .agg #[.int .i64 b1.n, .bool b1.char]] H (fun res H => res = .tuple #[.agg #[.int .i64 r.1.n, .bool r.1.char], .int .i64 r.2] ∧ Kn wm H [] Fr) := by
 unfold M.over_characters at h0
 refine f_enter (n := 33) Try.func88 rfl (by simp) hI rfl rfl rfl fun tm hS => ?_
 clear hI
 refine c_reg fun R hR => ?_
 refine o_box hS (.inl rfl) rfl rfl rfl (all_cons rfl (all_cons rfl all_nil)) ?_; clear hS
 intro b2 tm H hS
 refine o_box hS (.inl rfl) rfl rfl rfl (all_cons rfl (all_cons rfl all_nil)) ?_; clear hS
 intro b3 tm H hS
 refine o_alloc hS (.inl rfl) rfl Fz72 (by decide) ?_; clear hS
 intro b4 tm H hS
 refine pp1 hS rfl rfl ?_; clear hS
 intro tm hS
 refine o_nil (hR _ _ ?_)
 clear hR R
 refine c_seqS ?_
 refine wpC.block ?_
 obtain ⟨t1, h1, h0⟩ := bindS h0
 refine c_seqJ (J := fun tm H => (match (generalizing := false) t1 with | t1 => S wm 33 tm H [(0, .string fn1), (6, .pointer (some ⟨b4, 0, none⟩)), (8, .bool t1)] [.box b4 [.int .i64 0, .bool false]] Fr)) ?_ ?_
 ·refine c_reg fun R hR => ?_
  refine pp3 hS rfl rfl rfl rfl rfl rfl ?_; clear hS
  intro tm hS
  obtain ⟨c1, hc1⟩ : ∃ x : Bool, x = ((fn1.toList == str_61.toList) && ((a1.n == b1.n) && (a1.char == b1.char))) := ⟨_, rfl⟩
  refine o_cutN 4 (J := fun tm H => S wm 33 tm H [(15, .bool c1), (0, .string fn1), (4, .pointer (some ⟨b2, 0, none⟩)), (5, .pointer (some ⟨b3, 0, none⟩)), (6, .pointer (some ⟨b4, 0, none⟩))] [.box b4 [.int .i64 0, .bool false], .box b3 [.int .i64 b1.n, .bool b1.char], .box b2 [.int .i64 a1.n, .bool a1.char]] Fr) ?_ ?_
  ·rcases Bool.eq_false_or_eq_true (fn1.toList == str_61.toList) with hg1 | hg1
   ·refine o_ldA (k := 2) hS (.inr ⟨_, _, _, _, rfl, rfl, rfl, hg1⟩) rfl rfl rfl (.inl rfl) Fu72 rfl Fs72 rfl ?_; clear hS
    intro tm hS
    refine o_ldA (k := 1) hS (.inr ⟨_, _, _, _, rfl, rfl, rfl, hg1⟩) rfl rfl rfl (.inl rfl) Fu72 rfl Fs72 rfl ?_; clear hS
    intro tm hS
    refine o_eq2 hS (.inr ⟨_, _, _, _, rfl, rfl, rfl, hg1⟩) rfl rfl rfl Fq72 rfl ?_; clear hS
    intro tm hS
    refine o_pickT hS (.inl rfl) rfl rfl hg1 rfl ?_; clear hS
    intro tm hS
    have hc1 : c1 = ((a1.n == b1.n) && (a1.char == b1.char)) := hc1.trans (by rw [hg1]; first | rfl | simp)
    subst hc1
    exact o_nil (hS.keep (k5 rfl rfl rfl rfl rfl) (fun hI => (hI.sub (sc (sc (sc sn))))))
   ·refine o_skip hS rfl rfl rfl hg1 ?_; clear hS
    intro tm hS
    refine o_skip hS rfl rfl rfl hg1 ?_; clear hS
    intro tm hS
    refine o_skip hS rfl rfl rfl hg1 ?_; clear hS
    intro tm hS
    refine o_pickF hS (.inl rfl) rfl rfl hg1 rfl ?_; clear hS
    intro tm hS
    have hc1 : c1 = false := hc1.trans (by rw [hg1]; first | rfl | simp)
    subst hc1
    exact o_nil (hS.keep (k5 rfl rfl rfl rfl rfl) (fun hI => (hI.sub (sc (sc (sc sn))))))
  intro tm H hS
  subst hc1
  refine pp1 hS rfl rfl ?_; clear hS
  intro tm hS
  refine o_nil (hR _ _ ?_)
  clear hR R
  refine c_cond hS rfl (fun hc => ?_) (fun hc => ?_)
  ·replace h1 := iteT hc h1
   refine wpC.skip ?_
   obtain rfl := Option.some.inj h1
   change S wm 33 _ _ _ _ Fr; exact hS.keep (k3 rfl rfl rfl) (fun hI => (hI.sub (sc sn)))
  ·replace h1 := iteF hc h1
   refine c_reg1 fun R hR => ?_
   refine pp3 hS rfl rfl rfl rfl rfl rfl ?_; clear hS
   intro tm hS
   obtain ⟨c2, hc2⟩ : ∃ x : Bool, x = ((fn1.toList == str_226_137_160.toList) && (!((a1.n == b1.n) && (a1.char == b1.char)))) := ⟨_, rfl⟩
   refine o_cutN 4 (J := fun tm H => S wm 33 tm H [(22, .bool c2), (0, .string fn1), (6, .pointer (some ⟨b4, 0, none⟩)), (8, .bool ((fn1.toList == str_61.toList) && ((a1.n == b1.n) && (a1.char == b1.char))))] [.box b4 [.int .i64 0, .bool false]] Fr) ?_ ?_
   ·rcases Bool.eq_false_or_eq_true (fn1.toList == str_226_137_160.toList) with hg2 | hg2
    ·refine o_ldA (k := 2) hS (.inr ⟨_, _, _, _, rfl, rfl, rfl, hg2⟩) rfl rfl rfl (.inl rfl) Fu72 rfl Fs72 rfl ?_; clear hS
     intro tm hS
     refine o_ldA (k := 1) hS (.inr ⟨_, _, _, _, rfl, rfl, rfl, hg2⟩) rfl rfl rfl (.inl rfl) Fu72 rfl Fs72 rfl ?_; clear hS
     intro tm hS
     refine o_eq2n hS (.inr ⟨_, _, _, _, rfl, rfl, rfl, hg2⟩) rfl rfl rfl Fq72 rfl ?_; clear hS
     intro tm hS
     refine o_pickT hS (.inl rfl) rfl rfl hg2 rfl ?_; clear hS
     intro tm hS
     have hc2 : c2 = (!((a1.n == b1.n) && (a1.char == b1.char))) := hc2.trans (by rw [hg2]; first | rfl | simp)
     subst hc2
     exact o_nil (hS.keep (k4 rfl rfl rfl rfl) (fun hI => (hI.sub (sc sn))))
    ·refine o_skip hS rfl rfl rfl hg2 ?_; clear hS
     intro tm hS
     refine o_skip hS rfl rfl rfl hg2 ?_; clear hS
     intro tm hS
     refine o_skip hS rfl rfl rfl hg2 ?_; clear hS
     intro tm hS
     refine o_pickF hS (.inl rfl) rfl rfl hg2 rfl ?_; clear hS
     intro tm hS
     have hc2 : c2 = false := hc2.trans (by rw [hg2]; first | rfl | simp)
     subst hc2
     exact o_nil (hS.keep (k4 rfl rfl rfl rfl) (fun hI => (hI.sub (sc sn))))
   intro tm H hS
   subst hc2
   refine pp1 hS rfl rfl ?_; clear hS
   intro tm hS
   refine o_nil (hR _ _ ?_)
   clear hR R
   obtain rfl := Option.some.inj h1
   change S wm 33 _ _ _ _ Fr; exact hS.keep (k3 rfl rfl rfl) (fun hI => (hI.sub (sc sn)))
 intro tm H hS
 change S wm 33 tm H [(0, .string fn1), (6, .pointer (some ⟨b4, 0, none⟩)), (8, .bool t1)] [.box b4 [.int .i64 0, .bool false]] Fr at hS
 refine c_cond hS rfl (fun hc => ?_) (fun hc => ?_)
 ·replace h0 := iteT hc h0
  refine c_reg fun R hR => ?_
  refine o_build hS (.inl rfl) rfl Fb72 rfl (.cons rfl .nil) rfl ?_; clear hS
  intro tm hS
  refine o_st (k := 0) hS (.inl rfl) rfl rfl rfl Fs72 rfl rfl (all_cons rfl (all_cons rfl all_nil)) rfl ?_; clear hS; try clear H
  intro H hS
  refine pp1 hS rfl rfl ?_; clear hS
  intro tm hS
  refine o_nil (hR _ _ ?_)
  clear hR R
  refine wpC.ret ?_
  obtain rfl := Option.some.inj h0
  refine Exists.intro _ (And.intro (rs_cellA (k := 0) hS rfl rfl (.inl rfl) Fu72 rfl Fs72 rfl (rs_tmp hS rfl rs_nil)) ?_)
  have hI := hS.inv
  exact ⟨rfl, (hI.sub sn)⟩
 ·replace h0 := iteF hc h0
  refine c_reg fun R hR => ?_
  refine pp3 hS rfl rfl rfl rfl rfl rfl ?_; clear hS
  intro tm hS
  obtain ⟨c3, hc3⟩ : ∃ x : Bool, x = ((fn1.toList == str_61.toList) || (fn1.toList == str_226_137_160.toList)) := ⟨_, rfl⟩
  refine o_cutN 3 (J := fun tm H => S wm 33 tm H [(30, .bool c3), (6, .pointer (some ⟨b4, 0, none⟩))] [.box b4 [.int .i64 0, .bool false]] Fr) ?_ ?_
  ·rcases Bool.eq_false_or_eq_true (fn1.toList == str_61.toList) with hg3 | hg3
   ·refine o_skip hS rfl rfl rfl hg3 ?_; clear hS
    intro tm hS
    refine o_skip hS rfl rfl rfl hg3 ?_; clear hS
    intro tm hS
    refine o_pickT hS (.inl rfl) rfl rfl hg3 rfl ?_; clear hS
    intro tm hS
    have hc3 : c3 = true := hc3.trans (by rw [hg3]; first | rfl | simp)
    subst hc3
    exact o_nil (hS.keep (k2 rfl rfl) (fun hI => (hI.sub (sc sn))))
   ·refine o_pure hS (.inr ⟨_, _, _, _, rfl, rfl, rfl, hg3⟩) rfl rfl ?_; clear hS
    intro tm hS
    refine o_pure hS (.inr ⟨_, _, _, _, rfl, rfl, rfl, hg3⟩) rfl rfl ?_; clear hS
    intro tm hS
    refine o_pickF hS (.inl rfl) rfl rfl hg3 rfl ?_; clear hS
    intro tm hS
    have hc3 : c3 = (fn1.toList == str_226_137_160.toList) := hc3.trans (by rw [hg3]; first | rfl | simp)
    subst hc3
    exact o_nil (hS.keep (k2 rfl rfl) (fun hI => (hI.sub (sc sn))))
  intro tm H hS
  subst hc3
  refine pp1 hS rfl rfl ?_; clear hS
  intro tm hS
  refine o_nil (hR _ _ ?_)
  clear hR R
  refine c_cond hS rfl (fun hc => ?_) (fun hc => ?_)
  ·replace h0 := iteT hc h0
   refine c_reg fun R hR => ?_
   refine o_build hS (.inl rfl) rfl Fb72 rfl .nil rfl ?_; clear hS
   intro tm hS
   refine o_st (k := 0) hS (.inl rfl) rfl rfl rfl Fs72 rfl rfl (all_cons rfl (all_cons rfl all_nil)) rfl ?_; clear hS; try clear H
   intro H hS
   refine pp1 hS rfl rfl ?_; clear hS
   intro tm hS
   refine o_nil (hR _ _ ?_)
   clear hR R
   refine wpC.ret ?_
   obtain rfl := Option.some.inj h0
   refine Exists.intro _ (And.intro (rs_cellA (k := 0) hS rfl rfl (.inl rfl) Fu72 rfl Fs72 rfl (rs_tmp hS rfl rs_nil)) ?_)
   have hI := hS.inv
   exact ⟨rfl, (hI.sub sn)⟩
  ·replace h0 := iteF hc h0
   refine wpC.skip ?_
   refine c_reg fun R hR => ?_
   refine o_build hS (.inl rfl) rfl Fb72 rfl .nil rfl ?_; clear hS
   intro tm hS
   refine o_st (k := 0) hS (.inl rfl) rfl rfl rfl Fs72 rfl rfl (all_cons rfl (all_cons rfl all_nil)) rfl ?_; clear hS; try clear H
   intro H hS
   refine pp1 hS rfl rfl ?_; clear hS
   intro tm hS
   refine o_nil (hR _ _ ?_)
   clear hR R
   refine wpC.ret ?_
   obtain rfl := Option.some.inj h0
   refine Exists.intro _ (And.intro (rs_cellA (k := 0) hS rfl rfl (.inl rfl) Fu72 rfl Fs72 rfl (rs_tmp hS rfl rs_nil)) ?_)
   have hI := hS.inv
   exact ⟨rfl, (hI.sub sn)⟩
theorem wk100 {wm : Nat} {H : AHeap} {Fr : List Ent} (ho100 : ora 100 = false)    (hI : Kn wm H [] Fr) {r : Unit} (h0 : M.ints_dyads = some r) :
  wpF Try.prog ora wm 100 [] H (fun res H => ∃ b, res = .map (some b) ∧ Kn wm H [.raw b (.amap (mapE [(str_43, 104), (str_45, 105), (str_195_151, 106), (str_195_183, 107), (str_42, 108), (str_124, 109), (str_33, 110), (str_226_140_136, 111), (str_226_140_138, 112), (str_60, 113), (str_226_137_164, 115), (str_61, 116), (str_226_137_165, 117), (str_62, 118), (str_226_137_160, 119), (str_226_136_167, 120), (str_226_136_168, 122), (str_226_141_178, 123), (str_226_141_177, 124)]))] Fr) := by
 unfold M.ints_dyads at h0
 refine f_enter (n := 3) Try.func100 rfl (by simp [ho100]) hI rfl rfl rfl fun tm hS => ?_
 clear hI
 refine cr1 hS rfl rfl ?_; clear hS
 intro tm hS
 refine c_reg fun R hR => ?_
 refine o_mkmap hS (.inl rfl) rfl ?_; clear hS
 intro b1 tm H hS
 refine o_insert (k := 0) (key := str_43) (l := []) (l' := [(str_43, 104)]) hS (.inl rfl) rfl rfl rfl rfl Fu141 Fu9 (by kernel_rfl) rfl ?_; clear hS; try clear H
 intro H hS
 change S wm 3 _ H _ [.raw b1 (.amap (mapE [(str_43, 104)]))] Fr at hS
 refine o_insert (k := 0) (key := str_45) (l := [(str_43, 104)]) (l' := [(str_43, 104), (str_45, 105)]) hS (.inl rfl) rfl rfl rfl rfl Fu141 Fu9 (by kernel_rfl) rfl ?_; clear hS; try clear H
 intro H hS
 change S wm 3 _ H _ [.raw b1 (.amap (mapE [(str_43, 104), (str_45, 105)]))] Fr at hS
 refine o_insert (k := 0) (key := str_195_151) (l := [(str_43, 104), (str_45, 105)]) (l' := [(str_43, 104), (str_45, 105), (str_195_151, 106)]) hS (.inl rfl) rfl rfl rfl rfl Fu141 Fu9 (by kernel_rfl) rfl ?_; clear hS; try clear H
 intro H hS
 change S wm 3 _ H _ [.raw b1 (.amap (mapE [(str_43, 104), (str_45, 105), (str_195_151, 106)]))] Fr at hS
 refine o_insert (k := 0) (key := str_195_183) (l := [(str_43, 104), (str_45, 105), (str_195_151, 106)]) (l' := [(str_43, 104), (str_45, 105), (str_195_151, 106), (str_195_183, 107)]) hS (.inl rfl) rfl rfl rfl rfl Fu141 Fu9 (by kernel_rfl) rfl ?_; clear hS; try clear H
 intro H hS
 change S wm 3 _ H _ [.raw b1 (.amap (mapE [(str_43, 104), (str_45, 105), (str_195_151, 106), (str_195_183, 107)]))] Fr at hS
 refine o_insert (k := 0) (key := str_42) (l := [(str_43, 104), (str_45, 105), (str_195_151, 106), (str_195_183, 107)]) (l' := [(str_43, 104), (str_45, 105), (str_195_151, 106), (str_195_183, 107), (str_42, 108)]) hS (.inl rfl) rfl rfl rfl rfl Fu141 Fu9 (by kernel_rfl) rfl ?_; clear hS; try clear H
 intro H hS
 change S wm 3 _ H _ [.raw b1 (.amap (mapE [(str_43, 104), (str_45, 105), (str_195_151, 106), (str_195_183, 107), (str_42, 108)]))] Fr at hS
 refine o_insert (k := 0) (key := str_124) (l := [(str_43, 104), (str_45, 105), (str_195_151, 106), (str_195_183, 107), (str_42, 108)]) (l' := [(str_43, 104), (str_45, 105), (str_195_151, 106), (str_195_183, 107), (str_42, 108), (str_124, 109)]) hS (.inl rfl) rfl rfl rfl rfl Fu141 Fu9 (by kernel_rfl) rfl ?_; clear hS; try clear H
 intro H hS
 change S wm 3 _ H _ [.raw b1 (.amap (mapE [(str_43, 104), (str_45, 105), (str_195_151, 106), (str_195_183, 107), (str_42, 108), (str_124, 109)]))] Fr at hS
 refine o_insert (k := 0) (key := str_33) (l := [(str_43, 104), (str_45, 105), (str_195_151, 106), (str_195_183, 107), (str_42, 108), (str_124, 109)]) (l' := [(str_43, 104), (str_45, 105), (str_195_151, 106), (str_195_183, 107), (str_42, 108), (str_124, 109), (str_33, 110)]) hS (.inl rfl) rfl rfl rfl rfl Fu141 Fu9 (by kernel_rfl) rfl ?_; clear hS; try clear H
 intro H hS
 change S wm 3 _ H _ [.raw b1 (.amap (mapE [(str_43, 104), (str_45, 105), (str_195_151, 106), (str_195_183, 107), (str_42, 108), (str_124, 109), (str_33, 110)]))] Fr at hS
 refine o_insert (k := 0) (key := str_226_140_136) (l := [(str_43, 104), (str_45, 105), (str_195_151, 106), (str_195_183, 107), (str_42, 108), (str_124, 109), (str_33, 110)]) (l' := [(str_43, 104), (str_45, 105), (str_195_151, 106), (str_195_183, 107), (str_42, 108), (str_124, 109), (str_33, 110), (str_226_140_136, 111)]) hS (.inl rfl) rfl rfl rfl rfl Fu141 Fu9 (by kernel_rfl) rfl ?_; clear hS; try clear H
 intro H hS
 change S wm 3 _ H _ [.raw b1 (.amap (mapE [(str_43, 104), (str_45, 105), (str_195_151, 106), (str_195_183, 107), (str_42, 108), (str_124, 109), (str_33, 110), (str_226_140_136, 111)]))] Fr at hS
 refine o_insert (k := 0) (key := str_226_140_138) (l := [(str_43, 104), (str_45, 105), (str_195_151, 106), (str_195_183, 107), (str_42, 108), (str_124, 109), (str_33, 110), (str_226_140_136, 111)]) (l' := [(str_43, 104), (str_45, 105), (str_195_151, 106), (str_195_183, 107), (str_42, 108), (str_124, 109), (str_33, 110), (str_226_140_136, 111), (str_226_140_138, 112)]) hS (.inl rfl) rfl rfl rfl rfl Fu141 Fu9 (by kernel_rfl) rfl ?_; clear hS; try clear H
 intro H hS
 change S wm 3 _ H _ [.raw b1 (.amap (mapE [(str_43, 104), (str_45, 105), (str_195_151, 106), (str_195_183, 107), (str_42, 108), (str_124, 109), (str_33, 110), (str_226_140_136, 111), (str_226_140_138, 112)]))] Fr at hS
 refine o_insert (k := 0) (key := str_60) (l := [(str_43, 104), (str_45, 105), (str_195_151, 106), (str_195_183, 107), (str_42, 108), (str_124, 109), (str_33, 110), (str_226_140_136, 111), (str_226_140_138, 112)]) (l' := [(str_43, 104), (str_45, 105), (str_195_151, 106), (str_195_183, 107), (str_42, 108), (str_124, 109), (str_33, 110), (str_226_140_136, 111), (str_226_140_138, 112), (str_60, 113)]) hS (.inl rfl) rfl rfl rfl rfl Fu141 Fu9 (by kernel_rfl) rfl ?_; clear hS; try clear H
 intro H hS
 change S wm 3 _ H _ [.raw b1 (.amap (mapE [(str_43, 104), (str_45, 105), (str_195_151, 106), (str_195_183, 107), (str_42, 108), (str_124, 109), (str_33, 110), (str_226_140_136, 111), (str_226_140_138, 112), (str_60, 113)]))] Fr at hS
 refine o_insert (k := 0) (key := str_226_137_164) (l := [(str_43, 104), (str_45, 105), (str_195_151, 106), (str_195_183, 107), (str_42, 108), (str_124, 109), (str_33, 110), (str_226_140_136, 111), (str_226_140_138, 112), (str_60, 113)]) (l' := [(str_43, 104), (str_45, 105), (str_195_151, 106), (str_195_183, 107), (str_42, 108), (str_124, 109), (str_33, 110), (str_226_140_136, 111), (str_226_140_138, 112), (str_60, 113), (str_226_137_164, 115)]) hS (.inl rfl) rfl rfl rfl rfl Fu141 Fu9 (by kernel_rfl) rfl ?_; clear hS; try clear H
 intro H hS
 change S wm 3 _ H _ [.raw b1 (.amap (mapE [(str_43, 104), (str_45, 105), (str_195_151, 106), (str_195_183, 107), (str_42, 108), (str_124, 109), (str_33, 110), (str_226_140_136, 111), (str_226_140_138, 112), (str_60, 113), (str_226_137_164, 115)]))] Fr at hS
 refine o_insert (k := 0) (key := str_61) (l := [(str_43, 104), (str_45, 105), (str_195_151, 106), (str_195_183, 107), (str_42, 108), (str_124, 109), (str_33, 110), (str_226_140_136, 111), (str_226_140_138, 112), (str_60, 113), (str_226_137_164, 115)]) (l' := [(str_43, 104), (str_45, 105), (str_195_151, 106), (str_195_183, 107), (str_42, 108), (str_124, 109), (str_33, 110), (str_226_140_136, 111), (str_226_140_138, 112), (str_60, 113), (str_226_137_164, 115), (str_61, 116)]) hS (.inl rfl) rfl rfl rfl rfl Fu141 Fu9 (by kernel_rfl) rfl ?_; clear hS; try clear H
 intro H hS
 change S wm 3 _ H _ [.raw b1 (.amap (mapE [(str_43, 104), (str_45, 105), (str_195_151, 106), (str_195_183, 107), (str_42, 108), (str_124, 109), (str_33, 110), (str_226_140_136, 111), (str_226_140_138, 112), (str_60, 113), (str_226_137_164, 115), (str_61, 116)]))] Fr at hS
 refine o_insert (k := 0) (key := str_226_137_165) (l := [(str_43, 104), (str_45, 105), (str_195_151, 106), (str_195_183, 107), (str_42, 108), (str_124, 109), (str_33, 110), (str_226_140_136, 111), (str_226_140_138, 112), (str_60, 113), (str_226_137_164, 115), (str_61, 116)]) (l' := [(str_43, 104), (str_45, 105), (str_195_151, 106), (str_195_183, 107), (str_42, 108), (str_124, 109), (str_33, 110), (str_226_140_136, 111), (str_226_140_138, 112), (str_60, 113), (str_226_137_164, 115), (str_61, 116), (str_226_137_165, 117)]) hS (.inl rfl) rfl rfl rfl rfl Fu141 Fu9 (by kernel_rfl) rfl ?_; clear hS; try clear H
 intro H hS
 change S wm 3 _ H _ [.raw b1 (.amap (mapE [(str_43, 104), (str_45, 105), (str_195_151, 106), (str_195_183, 107), (str_42, 108), (str_124, 109), (str_33, 110), (str_226_140_136, 111), (str_226_140_138, 112), (str_60, 113), (str_226_137_164, 115), (str_61, 116), (str_226_137_165, 117)]))] Fr at hS
 refine o_insert (k := 0) (key := str_62) (l := [(str_43, 104), (str_45, 105), (str_195_151, 106), (str_195_183, 107), (str_42, 108), (str_124, 109), (str_33, 110), (str_226_140_136, 111), (str_226_140_138, 112), (str_60, 113), (str_226_137_164, 115), (str_61, 116), (str_226_137_165, 117)]) (l' := [(str_43, 104), (str_45, 105), (str_195_151, 106), (str_195_183, 107), (str_42, 108), (str_124, 109), (str_33, 110), (str_226_140_136, 111), (str_226_140_138, 112), (str_60, 113), (str_226_137_164, 115), (str_61, 116), (str_226_137_165, 117), (str_62, 118)]) hS (.inl rfl) rfl rfl rfl rfl Fu141 Fu9 (by kernel_rfl) rfl ?_; clear hS; try clear H
 intro H hS
 change S wm 3 _ H _ [.raw b1 (.amap (mapE [(str_43, 104), (str_45, 105), (str_195_151, 106), (str_195_183, 107), (str_42, 108), (str_124, 109), (str_33, 110), (str_226_140_136, 111), (str_226_140_138, 112), (str_60, 113), (str_226_137_164, 115), (str_61, 116), (str_226_137_165, 117), (str_62, 118)]))] Fr at hS
 refine o_insert (k := 0) (key := str_226_137_160) (l := [(str_43, 104), (str_45, 105), (str_195_151, 106), (str_195_183, 107), (str_42, 108), (str_124, 109), (str_33, 110), (str_226_140_136, 111), (str_226_140_138, 112), (str_60, 113), (str_226_137_164, 115), (str_61, 116), (str_226_137_165, 117), (str_62, 118)]) (l' := [(str_43, 104), (str_45, 105), (str_195_151, 106), (str_195_183, 107), (str_42, 108), (str_124, 109), (str_33, 110), (str_226_140_136, 111), (str_226_140_138, 112), (str_60, 113), (str_226_137_164, 115), (str_61, 116), (str_226_137_165, 117), (str_62, 118), (str_226_137_160, 119)]) hS (.inl rfl) rfl rfl rfl rfl Fu141 Fu9 (by kernel_rfl) rfl ?_; clear hS; try clear H
 intro H hS
 change S wm 3 _ H _ [.raw b1 (.amap (mapE [(str_43, 104), (str_45, 105), (str_195_151, 106), (str_195_183, 107), (str_42, 108), (str_124, 109), (str_33, 110), (str_226_140_136, 111), (str_226_140_138, 112), (str_60, 113), (str_226_137_164, 115), (str_61, 116), (str_226_137_165, 117), (str_62, 118), (str_226_137_160, 119)]))] Fr at hS
 refine o_insert (k := 0) (key := str_226_136_167) (l := [(str_43, 104), (str_45, 105), (str_195_151, 106), (str_195_183, 107), (str_42, 108), (str_124, 109), (str_33, 110), (str_226_140_136, 111), (str_226_140_138, 112), (str_60, 113), (str_226_137_164, 115), (str_61, 116), (str_226_137_165, 117), (str_62, 118), (str_226_137_160, 119)]) (l' := [(str_43, 104), (str_45, 105), (str_195_151, 106), (str_195_183, 107), (str_42, 108), (str_124, 109), (str_33, 110), (str_226_140_136, 111), (str_226_140_138, 112), (str_60, 113), (str_226_137_164, 115), (str_61, 116), (str_226_137_165, 117), (str_62, 118), (str_226_137_160, 119), (str_226_136_167, 120)]) hS (.inl rfl) rfl rfl rfl rfl Fu141 Fu9 (by kernel_rfl) rfl ?_; clear hS; try clear H
 intro H hS
 change S wm 3 _ H _ [.raw b1 (.amap (mapE [(str_43, 104), (str_45, 105), (str_195_151, 106), (str_195_183, 107), (str_42, 108), (str_124, 109), (str_33, 110), (str_226_140_136, 111), (str_226_140_138, 112), (str_60, 113), (str_226_137_164, 115), (str_61, 116), (str_226_137_165, 117), (str_62, 118), (str_226_137_160, 119), (str_226_136_167, 120)]))] Fr at hS
 refine o_insert (k := 0) (key := str_226_136_168) (l := [(str_43, 104), (str_45, 105), (str_195_151, 106), (str_195_183, 107), (str_42, 108), (str_124, 109), (str_33, 110), (str_226_140_136, 111), (str_226_140_138, 112), (str_60, 113), (str_226_137_164, 115), (str_61, 116), (str_226_137_165, 117), (str_62, 118), (str_226_137_160, 119), (str_226_136_167, 120)]) (l' := [(str_43, 104), (str_45, 105), (str_195_151, 106), (str_195_183, 107), (str_42, 108), (str_124, 109), (str_33, 110), (str_226_140_136, 111), (str_226_140_138, 112), (str_60, 113), (str_226_137_164, 115), (str_61, 116), (str_226_137_165, 117), (str_62, 118), (str_226_137_160, 119), (str_226_136_167, 120), (str_226_136_168, 122)]) hS (.inl rfl) rfl rfl rfl rfl Fu141 Fu9 (by kernel_rfl) rfl ?_; clear hS; try clear H
 intro H hS
 change S wm 3 _ H _ [.raw b1 (.amap (mapE [(str_43, 104), (str_45, 105), (str_195_151, 106), (str_195_183, 107), (str_42, 108), (str_124, 109), (str_33, 110), (str_226_140_136, 111), (str_226_140_138, 112), (str_60, 113), (str_226_137_164, 115), (str_61, 116), (str_226_137_165, 117), (str_62, 118), (str_226_137_160, 119), (str_226_136_167, 120), (str_226_136_168, 122)]))] Fr at hS
 refine o_insert (k := 0) (key := str_226_141_178) (l := [(str_43, 104), (str_45, 105), (str_195_151, 106), (str_195_183, 107), (str_42, 108), (str_124, 109), (str_33, 110), (str_226_140_136, 111), (str_226_140_138, 112), (str_60, 113), (str_226_137_164, 115), (str_61, 116), (str_226_137_165, 117), (str_62, 118), (str_226_137_160, 119), (str_226_136_167, 120), (str_226_136_168, 122)]) (l' := [(str_43, 104), (str_45, 105), (str_195_151, 106), (str_195_183, 107), (str_42, 108), (str_124, 109), (str_33, 110), (str_226_140_136, 111), (str_226_140_138, 112), (str_60, 113), (str_226_137_164, 115), (str_61, 116), (str_226_137_165, 117), (str_62, 118), (str_226_137_160, 119), (str_226_136_167, 120), (str_226_136_168, 122), (str_226_141_178, 123)]) hS (.inl rfl) rfl rfl rfl rfl Fu141 Fu9 (by kernel_rfl) rfl ?_; clear hS; try clear H
 intro H hS
 change S wm 3 _ H _ [.raw b1 (.amap (mapE [(str_43, 104), (str_45, 105), (str_195_151, 106), (str_195_183, 107), (str_42, 108), (str_124, 109), (str_33, 110), (str_226_140_136, 111), (str_226_140_138, 112), (str_60, 113), (str_226_137_164, 115), (str_61, 116), (str_226_137_165, 117), (str_62, 118), (str_226_137_160, 119), (str_226_136_167, 120), (str_226_136_168, 122), (str_226_141_178, 123)]))] Fr at hS
 refine o_insert (k := 0) (key := str_226_141_177) (l := [(str_43, 104), (str_45, 105), (str_195_151, 106), (str_195_183, 107), (str_42, 108), (str_124, 109), (str_33, 110), (str_226_140_136, 111), (str_226_140_138, 112), (str_60, 113), (str_226_137_164, 115), (str_61, 116), (str_226_137_165, 117), (str_62, 118), (str_226_137_160, 119), (str_226_136_167, 120), (str_226_136_168, 122), (str_226_141_178, 123)]) (l' := [(str_43, 104), (str_45, 105), (str_195_151, 106), (str_195_183, 107), (str_42, 108), (str_124, 109), (str_33, 110), (str_226_140_136, 111), (str_226_140_138, 112), (str_60, 113), (str_226_137_164, 115), (str_61, 116), (str_226_137_165, 117), (str_62, 118), (str_226_137_160, 119), (str_226_136_167, 120), (str_226_136_168, 122), (str_226_141_178, 123), (str_226_141_177, 124)]) hS (.inl rfl) rfl rfl rfl rfl Fu141 Fu9 (by kernel_rfl) rfl ?_; clear hS; try clear H
 intro H hS
 change S wm 3 _ H _ [.raw b1 (.amap (mapE [(str_43, 104), (str_45, 105), (str_195_151, 106), (str_195_183, 107), (str_42, 108), (str_124, 109), (str_33, 110), (str_226_140_136, 111), (str_226_140_138, 112), (str_60, 113), (str_226_137_164, 115), (str_61, 116), (str_226_137_165, 117), (str_62, 118), (str_226_137_160, 119), (str_226_136_167, 120), (str_226_136_168, 122), (str_226_141_178, 123), (str_226_141_177, 124)]))] Fr at hS
 refine pp2 hS rfl rfl rfl rfl ?_; clear hS
 intro tm hS
 refine o_nil (hR _ _ ?_)
 clear hR R
 refine wpC.ret ?_
 obtain rfl := Option.some.inj h0
 refine Exists.intro _ (And.intro (rs_tmp hS rfl rs_nil) ?_)
 have hI := hS.inv
 exact ⟨b1, rfl, (hI.sub (sc sn))⟩
theorem wk104 {wm : Nat} {H : AHeap} {Fr : List Ent}  (a1 : Int) (b1 : Int)   (hI : Kn wm H [] Fr) {r : Int × Bool} (h0 : M.ints_add a1 b1 = some r) :
  wpF Try.prog ora wm 104 [.int .i64 a1, .int .i64 b1] H (fun res H => res = .tuple #[.int .i64 r.1, .bool r.2] ∧ Kn wm H [] Fr) := by
 unfold M.ints_add at h0
 refine f_enter (n := 21) Try.func104 rfl (by simp) hI rfl rfl rfl fun tm hS => ?_
 clear hI
 refine cr2 hS rfl rfl rfl rfl ?_; clear hS
 intro tm hS
 refine cr4 hS rfl rfl rfl rfl rfl rfl rfl rfl ?_; clear hS
 intro tm hS
 refine c_reg fun R hR => ?_
 refine pp6 hS rfl rfl rfl rfl rfl rfl rfl rfl rfl rfl rfl rfl ?_; clear hS
 intro tm hS
 refine pp2 hS rfl rfl rfl rfl ?_; clear hS
 intro tm hS
 obtain ⟨c1, hc1⟩ : ∃ x : Bool, x = (((decide ((IntKind.i64.wrap (a1 + b1)) > a1)) == (decide (b1 > 0))) || (b1 == 0)) := ⟨_, rfl⟩
 refine o_cutN 3 (J := fun tm H => S wm 21 tm H [(20, .bool c1), (10, .int .i64 (IntKind.i64.wrap (a1 + b1)))] [] Fr) ?_ ?_
 ·rcases Bool.eq_false_or_eq_true ((decide ((IntKind.i64.wrap (a1 + b1)) > a1)) == (decide (b1 > 0))) with hg1 | hg1
  ·refine o_skip hS rfl rfl rfl hg1 ?_; clear hS
   intro tm hS
   refine o_skip hS rfl rfl rfl hg1 ?_; clear hS
   intro tm hS
   refine o_pickT hS (.inl rfl) rfl rfl hg1 rfl ?_; clear hS
   intro tm hS
   have hc1 : c1 = true := hc1.trans (by rw [hg1]; first | rfl | simp)
   subst hc1
   exact o_nil (hS.keep (k2 rfl rfl) (fun hI => (hI.sub sn)))
  ·refine o_pure hS (.inr ⟨_, _, _, _, rfl, rfl, rfl, hg1⟩) rfl rfl ?_; clear hS
   intro tm hS
   refine o_pure hS (.inr ⟨_, _, _, _, rfl, rfl, rfl, hg1⟩) rfl rfl ?_; clear hS
   intro tm hS
   refine o_pickF hS (.inl rfl) rfl rfl hg1 rfl ?_; clear hS
   intro tm hS
   have hc1 : c1 = (b1 == 0) := hc1.trans (by rw [hg1]; first | rfl | simp)
   subst hc1
   exact o_nil (hS.keep (k2 rfl rfl) (fun hI => (hI.sub sn)))
 intro tm H hS
 subst hc1
 refine pp2 hS rfl rfl rfl rfl ?_; clear hS
 intro tm hS
 refine o_nil (hR _ _ ?_)
 clear hR R
 refine wpC.ret ?_
 obtain rfl := Option.some.inj h0
 refine Exists.intro _ (And.intro (rs_tmp hS rfl (rs_tmp hS rfl rs_nil)) ?_)
 have hI := hS.inv
 exact ⟨rfl, (hI.sub sn)⟩
theorem wk101 {wm : Nat} {H : AHeap} {Fr : List Ent}  (c1 : Int) (ok1 : Bool)   (hI : Kn wm H [] Fr) {r : Int × Int} (h0 : M.ints_told c1 ok1 = some r) :
  wpF Try.prog ora wm 101 [.int .i64 c1, .bool ok1] H (fun res H => res = .tuple #[.int .i64 r.1, .int .i64 r.2] ∧ Kn wm H [] Fr) := by
 unfold M.ints_told at h0
 refine f_enter (n := 9) Try.func101 rfl (by simp) hI rfl rfl rfl fun tm hS => ?_
 clear hI
 refine cr2 hS rfl rfl rfl rfl ?_; clear hS
 intro tm hS
 refine c_seqS ?_
 refine cr2 hS rfl rfl rfl rfl ?_; clear hS
 intro tm hS
 refine c_cond hS rfl (fun hc => ?_) (fun hc => ?_)
 ·replace h0 := iteT hc h0
  refine cr2 hS rfl rfl rfl rfl ?_; clear hS
  intro tm hS
  refine wpC.ret ?_
  obtain rfl := Option.some.inj h0
  refine Exists.intro _ (And.intro (rs_tmp hS rfl (rs_tmp hS rfl rs_nil)) ?_)
  have hI := hS.inv
  exact ⟨rfl, (hI.sub sn)⟩
 ·replace h0 := iteF hc h0
  refine wpC.skip ?_
  refine cr3 hS rfl rfl rfl rfl rfl rfl ?_; clear hS
  intro tm hS
  refine wpC.ret ?_
  obtain rfl := Option.some.inj h0
  refine Exists.intro _ (And.intro (rs_tmp hS rfl (rs_tmp hS rfl rs_nil)) ?_)
  have hI := hS.inv
  exact ⟨rfl, (hI.sub sn)⟩
theorem wk105 {wm : Nat} {H : AHeap} {Fr : List Ent}  (a1 : Int) (b1 : Int)   (hI : Kn wm H [] Fr) {r : Int × Bool} (h0 : M.ints_sub a1 b1 = some r) :
  wpF Try.prog ora wm 105 [.int .i64 a1, .int .i64 b1] H (fun res H => res = .tuple #[.int .i64 r.1, .bool r.2] ∧ Kn wm H [] Fr) := by
 unfold M.ints_sub at h0
 refine f_enter (n := 21) Try.func105 rfl (by simp) hI rfl rfl rfl fun tm hS => ?_
 clear hI
 refine cr2 hS rfl rfl rfl rfl ?_; clear hS
 intro tm hS
 refine cr4 hS rfl rfl rfl rfl rfl rfl rfl rfl ?_; clear hS
 intro tm hS
 refine c_reg fun R hR => ?_
 refine pp6 hS rfl rfl rfl rfl rfl rfl rfl rfl rfl rfl rfl rfl ?_; clear hS
 intro tm hS
 refine pp2 hS rfl rfl rfl rfl ?_; clear hS
 intro tm hS
 obtain ⟨c1, hc1⟩ : ∃ x : Bool, x = (((decide ((IntKind.i64.wrap (a1 - b1)) < a1)) == (decide (b1 > 0))) || (b1 == 0)) := ⟨_, rfl⟩
 refine o_cutN 3 (J := fun tm H => S wm 21 tm H [(20, .bool c1), (10, .int .i64 (IntKind.i64.wrap (a1 - b1)))] [] Fr) ?_ ?_
 ·rcases Bool.eq_false_or_eq_true ((decide ((IntKind.i64.wrap (a1 - b1)) < a1)) == (decide (b1 > 0))) with hg1 | hg1
  ·refine o_skip hS rfl rfl rfl hg1 ?_; clear hS
   intro tm hS
   refine o_skip hS rfl rfl rfl hg1 ?_; clear hS
   intro tm hS
   refine o_pickT hS (.inl rfl) rfl rfl hg1 rfl ?_; clear hS
   intro tm hS
   have hc1 : c1 = true := hc1.trans (by rw [hg1]; first | rfl | simp)
   subst hc1
   exact o_nil (hS.keep (k2 rfl rfl) (fun hI => (hI.sub sn)))
  ·refine o_pure hS (.inr ⟨_, _, _, _, rfl, rfl, rfl, hg1⟩) rfl rfl ?_; clear hS
   intro tm hS
   refine o_pure hS (.inr ⟨_, _, _, _, rfl, rfl, rfl, hg1⟩) rfl rfl ?_; clear hS
   intro tm hS
   refine o_pickF hS (.inl rfl) rfl rfl hg1 rfl ?_; clear hS
   intro tm hS
   have hc1 : c1 = (b1 == 0) := hc1.trans (by rw [hg1]; first | rfl | simp)
   subst hc1
   exact o_nil (hS.keep (k2 rfl rfl) (fun hI => (hI.sub sn)))
 intro tm H hS
 subst hc1
 refine pp2 hS rfl rfl rfl rfl ?_; clear hS
 intro tm hS
 refine o_nil (hR _ _ ?_)
 clear hR R
 refine wpC.ret ?_
 obtain rfl := Option.some.inj h0
 refine Exists.intro _ (And.intro (rs_tmp hS rfl (rs_tmp hS rfl rs_nil)) ?_)
 have hI := hS.inv
 exact ⟨rfl, (hI.sub sn)⟩
theorem wk126 {wm : Nat} {H : AHeap} {Fr : List Ent}  (a1 : Int)   (hI : Kn wm H [] Fr) {r : Int} (h0 : M.ints_size a1 = some r) :
  wpF Try.prog ora wm 126 [.int .i64 a1] H (fun res H => res = .int .u64 r ∧ Kn wm H [] Fr) := by
 unfold M.ints_size at h0
 refine f_enter (n := 10) Try.func126 rfl (by simp) hI rfl rfl rfl fun tm hS => ?_
 clear hI
 refine cr1 hS rfl rfl ?_; clear hS
 intro tm hS
 refine c_seqS ?_
 refine cr2 hS rfl rfl rfl rfl ?_; clear hS
 intro tm hS
 refine c_cond hS rfl (fun hc => ?_) (fun hc => ?_)
 ·replace h0 := iteT hc h0
  refine cr4 hS rfl rfl rfl rfl rfl rfl rfl rfl ?_; clear hS
  intro tm hS
  refine wpC.ret ?_
  obtain rfl := Option.some.inj h0
  refine Exists.intro _ (And.intro (rs_tmp hS rfl rs_nil) ?_)
  have hI := hS.inv
  exact ⟨rfl, (hI.sub sn)⟩
 ·replace h0 := iteF hc h0
  refine wpC.skip ?_
  refine cr3 hS rfl rfl rfl rfl rfl rfl ?_; clear hS
  intro tm hS
  refine wpC.ret ?_
  obtain rfl := Option.some.inj h0
  refine Exists.intro _ (And.intro (rs_tmp hS rfl rs_nil) ?_)
  have hI := hS.inv
  exact ⟨rfl, (hI.sub sn)⟩
theorem wk125 {wm : Nat} {H : AHeap} {Fr : List Ent}  (x1 : Int) (y1 : Int)   (hI : Kn wm H [] Fr) {r : Int × Int} (h0 : M.math_bits_Mul64 x1 y1 = some r) :
  wpF Try.prog ora wm 125 [.int .u64 x1, .int .u64 y1] H (fun res H => res = .tuple #[.int .u64 r.1, .int .u64 r.2] ∧ Kn wm H [] Fr) := by
 unfold M.math_bits_Mul64 at h0
 refine f_enter (n := 51) Try.func125 rfl (by simp) hI rfl rfl rfl fun tm hS => ?_
 clear hI
 refine cr2 hS rfl rfl rfl rfl ?_; clear hS
 intro tm hS
 refine cr3 hS rfl rfl rfl rfl rfl rfl ?_; clear hS
 intro tm hS
 refine cr3 hS rfl rfl rfl rfl rfl rfl ?_; clear hS
 intro tm hS
 refine cr3 hS rfl rfl rfl rfl rfl rfl ?_; clear hS
 intro tm hS
 refine cr3 hS rfl rfl rfl rfl rfl rfl ?_; clear hS
 intro tm hS
 refine cr4 hS rfl rfl rfl rfl rfl rfl rfl rfl ?_; clear hS
 intro tm hS
 refine c_reg fun R hR => ?_
 refine pp6 hS rfl rfl rfl rfl rfl rfl rfl rfl rfl rfl rfl rfl ?_; clear hS
 intro tm hS
 refine pp1 hS rfl rfl ?_; clear hS
 intro tm hS
 refine o_nil (hR _ _ ?_)
 clear hR R
 refine cr3 hS rfl rfl rfl rfl rfl rfl ?_; clear hS
 intro tm hS
 refine cr3 hS rfl rfl rfl rfl rfl rfl ?_; clear hS
 intro tm hS
 refine c_reg fun R hR => ?_
 refine pp6 hS rfl rfl rfl rfl rfl rfl rfl rfl rfl rfl rfl rfl ?_; clear hS
 intro tm hS
 refine o_nil (hR _ _ ?_)
 clear hR R
 refine c_reg fun R hR => ?_
 refine pp6 hS rfl rfl rfl rfl rfl rfl rfl rfl rfl rfl rfl rfl ?_; clear hS
 intro tm hS
 refine pp3 hS rfl rfl rfl rfl rfl rfl ?_; clear hS
 intro tm hS
 refine o_nil (hR _ _ ?_)
 clear hR R
 refine cr4 hS rfl rfl rfl rfl rfl rfl rfl rfl ?_; clear hS
 intro tm hS
 refine wpC.ret ?_
 obtain rfl := Option.some.inj h0
 refine Exists.intro _ (And.intro (rs_tmp hS rfl (rs_tmp hS rfl rs_nil)) ?_)
 have hI := hS.inv
 exact ⟨rfl, (hI.sub sn)⟩
theorem wk106 {wm : Nat} {H : AHeap} {Fr : List Ent}  (a1 : Int) (b1 : Int)   (hI : Kn wm H [] Fr) {r : Int × Bool} (h0 : M.ints_mul a1 b1 = some r) :
  wpF Try.prog ora wm 106 [.int .i64 a1, .int .i64 b1] H (fun res H => res = .tuple #[.int .i64 r.1, .bool r.2] ∧ Kn wm H [] Fr) := by
 unfold M.ints_mul at h0
 refine f_enter (n := 38) Try.func106 rfl (by simp) hI rfl rfl rfl fun tm hS => ?_
 clear hI
 refine cr2 hS rfl rfl rfl rfl ?_; clear hS
 intro tm hS
 refine c_reg fun R hR => ?_
 refine pp1 hS rfl rfl ?_; clear hS
 intro tm hS
 obtain ⟨r1, hx1, h0⟩ := bindS h0
 refine o_call hS (.inl rfl) rfl (fun wm' hw1 hw2 => wk126  a1   (hS.sel hw2) hx1) (fun wm' res H hw' hp => ?_)
 obtain ⟨hres, hI⟩ := hp
 replace hres := hres.symm; subst hres
 replace hS : S wm 38 _ H ((10, .int .u64 r1) :: _) ([] ++ _) Fr := hS.after rfl hw' hI
 clear hI hw'
 refine pp1 hS rfl rfl ?_; clear hS
 intro tm hS
 obtain ⟨r2, hx2, h0⟩ := bindS h0
 refine o_call hS (.inl rfl) rfl (fun wm' hw1 hw2 => wk126  b1   (hS.sel hw2) hx2) (fun wm' res H hw' hp => ?_)
 obtain ⟨hres, hI⟩ := hp
 replace hres := hres.symm; subst hres
 replace hS : S wm 38 _ H ((12, .int .u64 r2) :: _) ([] ++ _) Fr := hS.after rfl hw' hI
 clear hI hw'
 obtain ⟨⟨r3, r4⟩, hx3, h0⟩ := bindS h0
 refine o_call hS (.inl rfl) rfl (fun wm' hw1 hw2 => wk125  r1 r2   (hS.sel hw2) hx3) (fun wm' res H hw' hp => ?_)
 obtain ⟨hres, hI⟩ := hp
 replace hres := hres.symm; subst hres
 replace hS : S wm 38 _ H ((13, .tuple #[.int .u64 r3, .int .u64 r4]) :: _) ([] ++ _) Fr := hS.after rfl hw' hI
 clear hI hw'
 refine pp5 hS rfl rfl rfl rfl rfl rfl rfl rfl rfl rfl ?_; clear hS
 intro tm hS
 refine o_nil (hR _ _ ?_)
 clear hR R
 refine c_seqS ?_
 refine cr5 hS rfl rfl rfl rfl rfl rfl rfl rfl rfl rfl ?_; clear hS
 intro tm hS
 refine c_cond hS rfl (fun hc => ?_) (fun hc => ?_)
 ·replace h0 := iteT hc h0
  refine c_reg fun R hR => ?_
  refine pp6 hS rfl rfl rfl rfl rfl rfl rfl rfl rfl rfl rfl rfl ?_; clear hS
  intro tm hS
  obtain ⟨c1, hc1⟩ : ∃ x : Bool, x = ((r3 == 0) && (decide (r4 ≤ 9223372036854775808))) := ⟨_, rfl⟩
  refine o_cutN 3 (J := fun tm H => S wm 38 tm H [(29, .bool c1), (23, .int .i64 (IntKind.i64.wrap (0 - (IntKind.i64.wrap r4))))] [] Fr) ?_ ?_
  ·rcases Bool.eq_false_or_eq_true (r3 == 0) with hg1 | hg1
   ·refine o_pure hS (.inr ⟨_, _, _, _, rfl, rfl, rfl, hg1⟩) rfl rfl ?_; clear hS
    intro tm hS
    refine o_pure hS (.inr ⟨_, _, _, _, rfl, rfl, rfl, hg1⟩) rfl rfl ?_; clear hS
    intro tm hS
    refine o_pickT hS (.inl rfl) rfl rfl hg1 rfl ?_; clear hS
    intro tm hS
    have hc1 : c1 = (decide (r4 ≤ 9223372036854775808)) := hc1.trans (by rw [hg1]; first | rfl | simp)
    subst hc1
    exact o_nil (hS.keep (k2 rfl rfl) (fun hI => (hI.sub sn)))
   ·refine o_skip hS rfl rfl rfl hg1 ?_; clear hS
    intro tm hS
    refine o_skip hS rfl rfl rfl hg1 ?_; clear hS
    intro tm hS
    refine o_pickF hS (.inl rfl) rfl rfl hg1 rfl ?_; clear hS
    intro tm hS
    have hc1 : c1 = false := hc1.trans (by rw [hg1]; first | rfl | simp)
    subst hc1
    exact o_nil (hS.keep (k2 rfl rfl) (fun hI => (hI.sub sn)))
  intro tm H hS
  subst hc1
  refine pp2 hS rfl rfl rfl rfl ?_; clear hS
  intro tm hS
  refine o_nil (hR _ _ ?_)
  clear hR R
  refine wpC.ret ?_
  obtain rfl := Option.some.inj h0
  refine Exists.intro _ (And.intro (rs_tmp hS rfl (rs_tmp hS rfl rs_nil)) ?_)
  have hI := hS.inv
  exact ⟨rfl, (hI.sub sn)⟩
 ·replace h0 := iteF hc h0
  refine wpC.skip ?_
  refine c_reg fun R hR => ?_
  refine pp5 hS rfl rfl rfl rfl rfl rfl rfl rfl rfl rfl ?_; clear hS
  intro tm hS
  obtain ⟨c2, hc2⟩ : ∃ x : Bool, x = ((r3 == 0) && (decide (r4 < 9223372036854775808))) := ⟨_, rfl⟩
  refine o_cutN 3 (J := fun tm H => S wm 38 tm H [(37, .bool c2), (31, .int .i64 (IntKind.i64.wrap r4))] [] Fr) ?_ ?_
  ·rcases Bool.eq_false_or_eq_true (r3 == 0) with hg2 | hg2
   ·refine o_pure hS (.inr ⟨_, _, _, _, rfl, rfl, rfl, hg2⟩) rfl rfl ?_; clear hS
    intro tm hS
    refine o_pure hS (.inr ⟨_, _, _, _, rfl, rfl, rfl, hg2⟩) rfl rfl ?_; clear hS
    intro tm hS
    refine o_pickT hS (.inl rfl) rfl rfl hg2 rfl ?_; clear hS
    intro tm hS
    have hc2 : c2 = (decide (r4 < 9223372036854775808)) := hc2.trans (by rw [hg2]; first | rfl | simp)
    subst hc2
    exact o_nil (hS.keep (k2 rfl rfl) (fun hI => (hI.sub sn)))
   ·refine o_skip hS rfl rfl rfl hg2 ?_; clear hS
    intro tm hS
    refine o_skip hS rfl rfl rfl hg2 ?_; clear hS
    intro tm hS
    refine o_pickF hS (.inl rfl) rfl rfl hg2 rfl ?_; clear hS
    intro tm hS
    have hc2 : c2 = false := hc2.trans (by rw [hg2]; first | rfl | simp)
    subst hc2
    exact o_nil (hS.keep (k2 rfl rfl) (fun hI => (hI.sub sn)))
  intro tm H hS
  subst hc2
  refine pp2 hS rfl rfl rfl rfl ?_; clear hS
  intro tm hS
  refine o_nil (hR _ _ ?_)
  clear hR R
  refine wpC.ret ?_
  obtain rfl := Option.some.inj h0
  refine Exists.intro _ (And.intro (rs_tmp hS rfl (rs_tmp hS rfl rs_nil)) ?_)
  have hI := hS.inv
  exact ⟨rfl, (hI.sub sn)⟩
theorem wk107 {wm : Nat} {H : AHeap} {Fr : List Ent}  (a1 : Int) (b1 : Int)   (hI : Kn wm H [] Fr) {r : Int × Bool} (h0 : M.ints_div a1 b1 = some r) :
  wpF Try.prog ora wm 107 [.int .i64 a1, .int .i64 b1] H (fun res H => res = .tuple #[.int .i64 r.1, .bool r.2] ∧ Kn wm H [] Fr) := by
 unfold M.ints_div at h0
 refine f_enter (n := 29) Try.func107 rfl (by simp) hI rfl rfl rfl fun tm hS => ?_
 clear hI
 refine cr2 hS rfl rfl rfl rfl ?_; clear hS
 intro tm hS
 refine c_seqS ?_
 refine wpC.block ?_
 refine c_reg fun R hR => ?_
 refine pp3 hS rfl rfl rfl rfl rfl rfl ?_; clear hS
 intro tm hS
 obtain ⟨c1, hc1⟩ : ∃ x : Bool, x = ((a1 == 0) && (b1 == 0)) := ⟨_, rfl⟩
 refine o_cutN 3 (J := fun tm H => S wm 29 tm H [(12, .bool c1), (0, .int .i64 a1), (1, .int .i64 b1)] [] Fr) ?_ ?_
 ·rcases Bool.eq_false_or_eq_true (a1 == 0) with hg1 | hg1
  ·refine o_pure hS (.inr ⟨_, _, _, _, rfl, rfl, rfl, hg1⟩) rfl rfl ?_; clear hS
   intro tm hS
   refine o_pure hS (.inr ⟨_, _, _, _, rfl, rfl, rfl, hg1⟩) rfl rfl ?_; clear hS
   intro tm hS
   refine o_pickT hS (.inl rfl) rfl rfl hg1 rfl ?_; clear hS
   intro tm hS
   have hc1 : c1 = (b1 == 0) := hc1.trans (by rw [hg1]; first | rfl | simp)
   subst hc1
   exact o_nil (hS.keep (k3 rfl rfl rfl) (fun hI => (hI.sub sn)))
  ·refine o_skip hS rfl rfl rfl hg1 ?_; clear hS
   intro tm hS
   refine o_skip hS rfl rfl rfl hg1 ?_; clear hS
   intro tm hS
   refine o_pickF hS (.inl rfl) rfl rfl hg1 rfl ?_; clear hS
   intro tm hS
   have hc1 : c1 = false := hc1.trans (by rw [hg1]; first | rfl | simp)
   subst hc1
   exact o_nil (hS.keep (k3 rfl rfl rfl) (fun hI => (hI.sub sn)))
 intro tm H hS
 subst hc1
 refine pp1 hS rfl rfl ?_; clear hS
 intro tm hS
 refine o_nil (hR _ _ ?_)
 clear hR R
 refine c_cond hS rfl (fun hc => ?_) (fun hc => ?_)
 ·replace h0 := iteT hc h0
  refine cr2 hS rfl rfl rfl rfl ?_; clear hS
  intro tm hS
  refine wpC.ret ?_
  obtain rfl := Option.some.inj h0
  refine Exists.intro _ (And.intro (rs_tmp hS rfl (rs_tmp hS rfl rs_nil)) ?_)
  have hI := hS.inv
  exact ⟨rfl, (hI.sub sn)⟩
 ·replace h0 := iteF hc h0
  obtain ⟨t1, h1, h0⟩ := bindS h0
  refine c_seqJ (J := fun tm H => (match (generalizing := false) t1 with | t1 => S wm 29 tm H [(0, .int .i64 a1), (1, .int .i64 b1), (13, .bool t1)] [] Fr)) ?_ ?_
  ·refine cr3 hS rfl rfl rfl rfl rfl rfl ?_; clear hS
   intro tm hS
   refine c_cond hS rfl (fun hc => ?_) (fun hc => ?_)
   ·replace h1 := iteT hc h1
    refine wpC.skip ?_
    obtain rfl := Option.some.inj h1
    change S wm 29 _ _ _ _ Fr; exact hS.keep (k3 rfl rfl rfl) (fun hI => (hI.sub sn))
   ·replace h1 := iteF hc h1
    refine c_reg1 fun R hR => ?_
    refine pp3 hS rfl rfl rfl rfl rfl rfl ?_; clear hS
    intro tm hS
    obtain ⟨c2, hc2⟩ : ∃ x : Bool, x = ((a1 == (-9223372036854775808)) && (b1 == (-1))) := ⟨_, rfl⟩
    refine o_cutN 3 (J := fun tm H => S wm 29 tm H [(21, .bool c2), (0, .int .i64 a1), (1, .int .i64 b1), (13, .bool (b1 == 0))] [] Fr) ?_ ?_
    ·rcases Bool.eq_false_or_eq_true (a1 == (-9223372036854775808)) with hg2 | hg2
     ·refine o_pure hS (.inr ⟨_, _, _, _, rfl, rfl, rfl, hg2⟩) rfl rfl ?_; clear hS
      intro tm hS
      refine o_pure hS (.inr ⟨_, _, _, _, rfl, rfl, rfl, hg2⟩) rfl rfl ?_; clear hS
      intro tm hS
      refine o_pickT hS (.inl rfl) rfl rfl hg2 rfl ?_; clear hS
      intro tm hS
      have hc2 : c2 = (b1 == (-1)) := hc2.trans (by rw [hg2]; first | rfl | simp)
      subst hc2
      exact o_nil (hS.keep (k4 rfl rfl rfl rfl) (fun hI => (hI.sub sn)))
     ·refine o_skip hS rfl rfl rfl hg2 ?_; clear hS
      intro tm hS
      refine o_skip hS rfl rfl rfl hg2 ?_; clear hS
      intro tm hS
      refine o_pickF hS (.inl rfl) rfl rfl hg2 rfl ?_; clear hS
      intro tm hS
      have hc2 : c2 = false := hc2.trans (by rw [hg2]; first | rfl | simp)
      subst hc2
      exact o_nil (hS.keep (k4 rfl rfl rfl rfl) (fun hI => (hI.sub sn)))
    intro tm H hS
    subst hc2
    refine pp1 hS rfl rfl ?_; clear hS
    intro tm hS
    refine o_nil (hR _ _ ?_)
    clear hR R
    obtain rfl := Option.some.inj h1
    change S wm 29 _ _ _ _ Fr; exact hS.keep (k3 rfl rfl rfl) (fun hI => (hI.sub sn))
  intro tm H hS
  change S wm 29 tm H [(0, .int .i64 a1), (1, .int .i64 b1), (13, .bool t1)] [] Fr at hS
  refine c_cond hS rfl (fun hc => ?_) (fun hc => ?_)
  ·replace h0 := iteT hc h0
   refine cr2 hS rfl rfl rfl rfl ?_; clear hS
   intro tm hS
   refine wpC.ret ?_
   obtain rfl := Option.some.inj h0
   refine Exists.intro _ (And.intro (rs_tmp hS rfl (rs_tmp hS rfl rs_nil)) ?_)
   have hI := hS.inv
   exact ⟨rfl, (hI.sub sn)⟩
  ·replace h0 := iteF hc h0
   refine wpC.skip ?_
   refine c_reg fun R hR => ?_
   refine pp2 hS rfl rfl rfl rfl ?_; clear hS
   intro tm hS
   obtain ⟨q1, hx1, h0⟩ := bindS h0
   refine o_quo hS (.inl rfl) rfl rfl rfl hx1 ?_; clear hS
   intro tm hS
   refine pp2 hS rfl rfl rfl rfl ?_; clear hS
   intro tm hS
   obtain ⟨q2, hx2, h0⟩ := bindS h0
   refine o_rem hS (.inl rfl) rfl rfl rfl hx2 ?_; clear hS
   intro tm hS
   refine pp3 hS rfl rfl rfl rfl rfl rfl ?_; clear hS
   intro tm hS
   refine o_nil (hR _ _ ?_)
   clear hR R
   refine wpC.ret ?_
   obtain rfl := Option.some.inj h0
   refine Exists.intro _ (And.intro (rs_tmp hS rfl (rs_tmp hS rfl rs_nil)) ?_)
   have hI := hS.inv
   exact ⟨rfl, (hI.sub sn)⟩
theorem wk108 {wm : Nat} {H : AHeap} {Fr : List Ent}  (a1 : Int) (b1 : Int)   (hI : Kn wm H [] Fr) {r : Int × Bool} (h0 : M.ints_power a1 b1 = some r) :
  wpF Try.prog ora wm 108 [.int .i64 a1, .int .i64 b1] H (fun res H => res = .tuple #[.int .i64 r.1, .bool r.2] ∧ Kn wm H [] Fr) := by
 unfold M.ints_power at h0
 refine f_enter (n := 53) Try.func108 rfl (by simp) hI rfl rfl rfl fun tm hS => ?_
 clear hI
 refine cr2 hS rfl rfl rfl rfl ?_; clear hS
 intro tm hS
 refine c_seqS ?_
 refine wpC.block ?_
 refine cr3 hS rfl rfl rfl rfl rfl rfl ?_; clear hS
 intro tm hS
 refine c_cond hS rfl (fun hc => ?_) (fun hc => ?_)
 ·replace h0 := iteT hc h0
  refine cr2 hS rfl rfl rfl rfl ?_; clear hS
  intro tm hS
  refine wpC.ret ?_
  obtain rfl := Option.some.inj h0
  refine Exists.intro _ (And.intro (rs_tmp hS rfl (rs_tmp hS rfl rs_nil)) ?_)
  have hI := hS.inv
  exact ⟨rfl, (hI.sub sn)⟩
 ·replace h0 := iteF hc h0
  obtain ⟨t1, h1, h0⟩ := bindS h0
  refine c_seqJ (J := fun tm H => (match (generalizing := false) t1 with | t1 => S wm 53 tm H [(0, .int .i64 a1), (1, .int .i64 b1), (12, .bool t1)] [] Fr)) ?_ ?_
  ·refine cr3 hS rfl rfl rfl rfl rfl rfl ?_; clear hS
   intro tm hS
   refine c_cond hS rfl (fun hc => ?_) (fun hc => ?_)
   ·replace h1 := iteT hc h1
    refine wpC.skip ?_
    obtain rfl := Option.some.inj h1
    change S wm 53 _ _ _ _ Fr; exact hS.keep (k3 rfl rfl rfl) (fun hI => (hI.sub sn))
   ·replace h1 := iteF hc h1
    refine c_reg1 fun R hR => ?_
    refine pp3 hS rfl rfl rfl rfl rfl rfl ?_; clear hS
    intro tm hS
    obtain ⟨c1, hc1⟩ : ∃ x : Bool, x = ((a1 == 0) && (decide (b1 > 0))) := ⟨_, rfl⟩
    refine o_cutN 3 (J := fun tm H => S wm 53 tm H [(20, .bool c1), (0, .int .i64 a1), (1, .int .i64 b1), (12, .bool (a1 == 1))] [] Fr) ?_ ?_
    ·rcases Bool.eq_false_or_eq_true (a1 == 0) with hg1 | hg1
     ·refine o_pure hS (.inr ⟨_, _, _, _, rfl, rfl, rfl, hg1⟩) rfl rfl ?_; clear hS
      intro tm hS
      refine o_pure hS (.inr ⟨_, _, _, _, rfl, rfl, rfl, hg1⟩) rfl rfl ?_; clear hS
      intro tm hS
      refine o_pickT hS (.inl rfl) rfl rfl hg1 rfl ?_; clear hS
      intro tm hS
      have hc1 : c1 = (decide (b1 > 0)) := hc1.trans (by rw [hg1]; first | rfl | simp)
      subst hc1
      exact o_nil (hS.keep (k4 rfl rfl rfl rfl) (fun hI => (hI.sub sn)))
     ·refine o_skip hS rfl rfl rfl hg1 ?_; clear hS
      intro tm hS
      refine o_skip hS rfl rfl rfl hg1 ?_; clear hS
      intro tm hS
      refine o_pickF hS (.inl rfl) rfl rfl hg1 rfl ?_; clear hS
      intro tm hS
      have hc1 : c1 = false := hc1.trans (by rw [hg1]; first | rfl | simp)
      subst hc1
      exact o_nil (hS.keep (k4 rfl rfl rfl rfl) (fun hI => (hI.sub sn)))
    intro tm H hS
    subst hc1
    refine pp1 hS rfl rfl ?_; clear hS
    intro tm hS
    refine o_nil (hR _ _ ?_)
    clear hR R
    obtain rfl := Option.some.inj h1
    change S wm 53 _ _ _ _ Fr; exact hS.keep (k3 rfl rfl rfl) (fun hI => (hI.sub sn))
  intro tm H hS
  change S wm 53 tm H [(0, .int .i64 a1), (1, .int .i64 b1), (12, .bool t1)] [] Fr at hS
  refine c_cond hS rfl (fun hc => ?_) (fun hc => ?_)
  ·replace h0 := iteT hc h0
   refine cr3 hS rfl rfl rfl rfl rfl rfl ?_; clear hS
   intro tm hS
   refine wpC.ret ?_
   obtain rfl := Option.some.inj h0
   refine Exists.intro _ (And.intro (rs_tmp hS rfl (rs_tmp hS rfl rs_nil)) ?_)
   have hI := hS.inv
   exact ⟨rfl, (hI.sub sn)⟩
  ·replace h0 := iteF hc h0
   refine cr3 hS rfl rfl rfl rfl rfl rfl ?_; clear hS
   intro tm hS
   refine c_cond hS rfl (fun hc => ?_) (fun hc => ?_)
   ·replace h0 := iteT hc h0
    refine c_reg fun R hR => ?_
    refine pp6 hS rfl rfl rfl rfl rfl rfl rfl rfl rfl rfl rfl rfl ?_; clear hS
    intro tm hS
    refine o_nil (hR _ _ ?_)
    clear hR R
    refine wpC.ret ?_
    obtain rfl := Option.some.inj h0
    refine Exists.intro _ (And.intro (rs_tmp hS rfl (rs_tmp hS rfl rs_nil)) ?_)
    have hI := hS.inv
    exact ⟨rfl, (hI.sub sn)⟩
   ·replace h0 := iteF hc h0
    refine c_reg fun R hR => ?_
    refine pp3 hS rfl rfl rfl rfl rfl rfl ?_; clear hS
    intro tm hS
    obtain ⟨c2, hc2⟩ : ∃ x : Bool, x = ((decide (b1 < 0)) || (decide (b1 > 63))) := ⟨_, rfl⟩
    refine o_cutN 3 (J := fun tm H => S wm 53 tm H [(35, .bool c2), (0, .int .i64 a1), (1, .int .i64 b1)] [] Fr) ?_ ?_
    ·rcases Bool.eq_false_or_eq_true (decide (b1 < 0)) with hg2 | hg2
     ·refine o_skip hS rfl rfl rfl hg2 ?_; clear hS
      intro tm hS
      refine o_skip hS rfl rfl rfl hg2 ?_; clear hS
      intro tm hS
      refine o_pickT hS (.inl rfl) rfl rfl hg2 rfl ?_; clear hS
      intro tm hS
      have hc2 : c2 = true := hc2.trans (by rw [hg2]; first | rfl | simp)
      subst hc2
      exact o_nil (hS.keep (k3 rfl rfl rfl) (fun hI => (hI.sub sn)))
     ·refine o_pure hS (.inr ⟨_, _, _, _, rfl, rfl, rfl, hg2⟩) rfl rfl ?_; clear hS
      intro tm hS
      refine o_pure hS (.inr ⟨_, _, _, _, rfl, rfl, rfl, hg2⟩) rfl rfl ?_; clear hS
      intro tm hS
      refine o_pickF hS (.inl rfl) rfl rfl hg2 rfl ?_; clear hS
      intro tm hS
      have hc2 : c2 = (decide (b1 > 63)) := hc2.trans (by rw [hg2]; first | rfl | simp)
      subst hc2
      exact o_nil (hS.keep (k3 rfl rfl rfl) (fun hI => (hI.sub sn)))
    intro tm H hS
    subst hc2
    refine pp1 hS rfl rfl ?_; clear hS
    intro tm hS
    refine o_nil (hR _ _ ?_)
    clear hR R
    refine c_cond hS rfl (fun hc => ?_) (fun hc => ?_)
    ·replace h0 := iteT hc h0
     refine cr2 hS rfl rfl rfl rfl ?_; clear hS
     intro tm hS
     refine wpC.ret ?_
     obtain rfl := Option.some.inj h0
     refine Exists.intro _ (And.intro (rs_tmp hS rfl (rs_tmp hS rfl rs_nil)) ?_)
     have hI := hS.inv
     exact ⟨rfl, (hI.sub sn)⟩
    ·replace h0 := iteF hc h0
     refine wpC.skip ?_
     refine cr3 hS rfl rfl rfl rfl rfl rfl ?_; clear hS
     intro tm hS
     refine c_seqS ?_
     refine cr1 hS rfl rfl ?_; clear hS
     intro tm hS
     obtain ⟨k1, hw1, h0⟩ := bindS h0
     refine wpC.block ?_
     refine c_loop (I := fun (s : Int × Bool × Int) tm H => match (generalizing := false) s with | (c3, ok1, i1) => S wm 53 tm H [(0, .int .i64 a1), (1, .int .i64 b1), (6, .int .i64 c3), (7, .bool ok1), (8, .int .i64 i1)] [] Fr) hw1 (by change S wm 53 _ _ _ _ Fr; exact hS.keep (k5 rfl rfl rfl rfl rfl) (fun hI => (hI.sub sn))) ?_
     clear hS
     intro s1 tm H c4 hS h2 hq2
     obtain ⟨c3, ok1, i1⟩ := s1
     change S wm 53 tm H [(0, .int .i64 a1), (1, .int .i64 b1), (6, .int .i64 c3), (7, .bool ok1), (8, .int .i64 i1)] [] Fr at hS
     refine c_seqS ?_
     refine c_reg fun R hR => ?_
     refine pp4 hS rfl rfl rfl rfl rfl rfl rfl rfl ?_; clear hS
     intro tm hS
     obtain ⟨c5, hc3⟩ : ∃ x : Bool, x = ((decide (i1 < b1)) && ok1) := ⟨_, rfl⟩
     refine o_cutN 2 (J := fun tm H => S wm 53 tm H [(42, .bool c5), (0, .int .i64 a1), (1, .int .i64 b1), (6, .int .i64 c3), (7, .bool ok1), (8, .int .i64 i1)] [] Fr) ?_ ?_
     ·rcases Bool.eq_false_or_eq_true (decide (i1 < b1)) with hg3 | hg3
      ·refine o_pure hS (.inr ⟨_, _, _, _, rfl, rfl, rfl, hg3⟩) rfl rfl ?_; clear hS
       intro tm hS
       refine o_pickT hS (.inl rfl) rfl rfl hg3 rfl ?_; clear hS
       intro tm hS
       have hc3 : c5 = ok1 := hc3.trans (by rw [hg3]; first | rfl | simp)
       subst hc3
       exact o_nil (hS.keep (k6 rfl rfl rfl rfl rfl rfl) (fun hI => (hI.sub sn)))
      ·refine o_skip hS rfl rfl rfl hg3 ?_; clear hS
       intro tm hS
       refine o_pickF hS (.inl rfl) rfl rfl hg3 rfl ?_; clear hS
       intro tm hS
       have hc3 : c5 = false := hc3.trans (by rw [hg3]; first | rfl | simp)
       subst hc3
       exact o_nil (hS.keep (k6 rfl rfl rfl rfl rfl rfl) (fun hI => (hI.sub sn)))
     intro tm H hS
     subst hc3
     refine o_nil (hR _ _ ?_)
     clear hR R
     refine c_cond hS rfl (fun hc => ?_) (fun hc => ?_)
     ·replace h2 := iteT hc h2
      refine wpC.skip ?_
      refine c_seqS ?_
      refine wpC.block ?_
      refine c_reg1 fun R hR => ?_
      refine pp2 hS rfl rfl rfl rfl ?_; clear hS
      intro tm hS
      obtain ⟨⟨r1, r2⟩, hx1, h2⟩ := bindS h2
      refine o_call hS (.inl rfl) rfl (fun wm' hw1 hw2 => wk106  c3 a1   (hS.sel hw2) hx1) (fun wm' res H hw' hp => ?_)
      obtain ⟨hres, hI⟩ := hp
      replace hres := hres.symm; subst hres
      replace hS : S wm 53 _ H ((48, .tuple #[.int .i64 r1, .bool r2]) :: _) ([] ++ _) Fr := hS.after rfl hw' hI
      clear hI hw'
      refine pp5 hS rfl rfl rfl rfl rfl rfl rfl rfl rfl rfl ?_; clear hS
      intro tm hS
      refine o_nil (hR _ _ ?_)
      clear hR R
      refine cs3 hS rfl rfl rfl rfl rfl rfl ?_; clear hS
      intro tm hS
      obtain rfl := Option.some.inj h2
      refine ⟨_, rfl, ?_⟩
      change S wm 53 _ _ _ _ Fr; exact hS.keep (k5 rfl rfl rfl rfl rfl) (fun hI => (hI.sub sn))
     ·replace h2 := iteF hc h2
      refine wpC.exit ?_
      refine seqX ?_
      obtain rfl := Option.some.inj h2
      obtain rfl := hq2 _ rfl
      refine And.intro rfl (blk_eq ?_)
      replace h0 := joinN h0
      refine cr4 hS rfl rfl rfl rfl rfl rfl rfl rfl ?_; clear hS
      intro tm hS
      refine wpC.ret ?_
      obtain rfl := Option.some.inj h0
      refine Exists.intro _ (And.intro (rs_tmp hS rfl (rs_tmp hS rfl rs_nil)) ?_)
      have hI := hS.inv
      exact ⟨rfl, (hI.sub sn)⟩
theorem wk109 {wm : Nat} {H : AHeap} {Fr : List Ent}  (a1 : Int) (b1 : Int)   (hI : Kn wm H [] Fr) {r : Int × Bool} (h0 : M.ints_residue a1 b1 = some r) :
  wpF Try.prog ora wm 109 [.int .i64 a1, .int .i64 b1] H (fun res H => res = .tuple #[.int .i64 r.1, .bool r.2] ∧ Kn wm H [] Fr) := by
 unfold M.ints_residue at h0
 refine f_enter (n := 28) Try.func109 rfl (by simp) hI rfl rfl rfl fun tm hS => ?_
 clear hI
 refine cr2 hS rfl rfl rfl rfl ?_; clear hS
 intro tm hS
 refine c_seqS ?_
 refine cr2 hS rfl rfl rfl rfl ?_; clear hS
 intro tm hS
 refine c_cond hS rfl (fun hc => ?_) (fun hc => ?_)
 ·replace h0 := iteT hc h0
  refine cr3 hS rfl rfl rfl rfl rfl rfl ?_; clear hS
  intro tm hS
  refine wpC.ret ?_
  obtain rfl := Option.some.inj h0
  refine Exists.intro _ (And.intro (rs_tmp hS rfl (rs_tmp hS rfl rs_nil)) ?_)
  have hI := hS.inv
  exact ⟨rfl, (hI.sub sn)⟩
 ·replace h0 := iteF hc h0
  refine wpC.skip ?_
  refine c_seqS ?_
  refine cr2 hS rfl rfl rfl rfl ?_; clear hS
  intro tm hS
  refine c_cond hS rfl (fun hc => ?_) (fun hc => ?_)
  ·replace h0 := iteT hc h0
   refine cr2 hS rfl rfl rfl rfl ?_; clear hS
   intro tm hS
   refine wpC.ret ?_
   obtain rfl := Option.some.inj h0
   refine Exists.intro _ (And.intro (rs_tmp hS rfl (rs_tmp hS rfl rs_nil)) ?_)
   have hI := hS.inv
   exact ⟨rfl, (hI.sub sn)⟩
  ·replace h0 := iteF hc h0
   refine wpC.skip ?_
   refine c_reg fun R hR => ?_
   refine pp2 hS rfl rfl rfl rfl ?_; clear hS
   intro tm hS
   obtain ⟨q1, hx1, h0⟩ := bindS h0
   refine o_rem hS (.inl rfl) rfl rfl rfl hx1 ?_; clear hS
   intro tm hS
   refine pp1 hS rfl rfl ?_; clear hS
   intro tm hS
   refine o_nil (hR _ _ ?_)
   clear hR R
   obtain ⟨r1, h1, h0⟩ := bindS h0
   refine c_seqJ (J := fun tm H => (match (generalizing := false) r1 with | r1 => S wm 28 tm H [(6, .int .i64 r1)] [] Fr)) ?_ ?_
   ·refine c_reg fun R hR => ?_
    refine pp3 hS rfl rfl rfl rfl rfl rfl ?_; clear hS
    intro tm hS
    obtain ⟨c1, hc1⟩ : ∃ x : Bool, x = ((q1 != 0) && (!((decide (q1 < 0)) == (decide (a1 < 0))))) := ⟨_, rfl⟩
    refine o_cutN 6 (J := fun tm H => S wm 28 tm H [(23, .bool c1), (0, .int .i64 a1), (6, .int .i64 q1)] [] Fr) ?_ ?_
    ·rcases Bool.eq_false_or_eq_true (q1 != 0) with hg1 | hg1
     ·refine o_pure hS (.inr ⟨_, _, _, _, rfl, rfl, rfl, hg1⟩) rfl rfl ?_; clear hS
      intro tm hS
      refine o_pure hS (.inr ⟨_, _, _, _, rfl, rfl, rfl, hg1⟩) rfl rfl ?_; clear hS
      intro tm hS
      refine o_pure hS (.inr ⟨_, _, _, _, rfl, rfl, rfl, hg1⟩) rfl rfl ?_; clear hS
      intro tm hS
      refine o_pure hS (.inr ⟨_, _, _, _, rfl, rfl, rfl, hg1⟩) rfl rfl ?_; clear hS
      intro tm hS
      refine o_pure hS (.inr ⟨_, _, _, _, rfl, rfl, rfl, hg1⟩) rfl rfl ?_; clear hS
      intro tm hS
      refine o_pickT hS (.inl rfl) rfl rfl hg1 rfl ?_; clear hS
      intro tm hS
      have hc1 : c1 = (!((decide (q1 < 0)) == (decide (a1 < 0)))) := hc1.trans (by rw [hg1]; first | rfl | simp)
      subst hc1
      exact o_nil (hS.keep (k3 rfl rfl rfl) (fun hI => (hI.sub sn)))
     ·refine o_skip hS rfl rfl rfl hg1 ?_; clear hS
      intro tm hS
      refine o_skip hS rfl rfl rfl hg1 ?_; clear hS
      intro tm hS
      refine o_skip hS rfl rfl rfl hg1 ?_; clear hS
      intro tm hS
      refine o_skip hS rfl rfl rfl hg1 ?_; clear hS
      intro tm hS
      refine o_skip hS rfl rfl rfl hg1 ?_; clear hS
      intro tm hS
      refine o_pickF hS (.inl rfl) rfl rfl hg1 rfl ?_; clear hS
      intro tm hS
      have hc1 : c1 = false := hc1.trans (by rw [hg1]; first | rfl | simp)
      subst hc1
      exact o_nil (hS.keep (k3 rfl rfl rfl) (fun hI => (hI.sub sn)))
    intro tm H hS
    subst hc1
    refine o_nil (hR _ _ ?_)
    clear hR R
    refine c_cond hS rfl (fun hc => ?_) (fun hc => ?_)
    ·replace h1 := iteT hc h1
     refine c_reg1 fun R hR => ?_
     refine pp4 hS rfl rfl rfl rfl rfl rfl rfl rfl ?_; clear hS
     intro tm hS
     refine o_nil (hR _ _ ?_)
     clear hR R
     obtain rfl := Option.some.inj h1
     change S wm 28 _ _ _ _ Fr; exact hS.keep (ka_cons rfl ka_nil) (fun hI => (hI.sub sn))
    ·replace h1 := iteF hc h1
     refine wpC.skip ?_
     obtain rfl := Option.some.inj h1
     change S wm 28 _ _ _ _ Fr; exact hS.keep (ka_cons rfl ka_nil) (fun hI => (hI.sub sn))
   intro tm H hS
   change S wm 28 tm H [(6, .int .i64 r1)] [] Fr at hS
   refine cr3 hS rfl rfl rfl rfl rfl rfl ?_; clear hS
   intro tm hS
   refine wpC.ret ?_
   obtain rfl := Option.some.inj h0
   refine Exists.intro _ (And.intro (rs_tmp hS rfl (rs_tmp hS rfl rs_nil)) ?_)
   have hI := hS.inv
   exact ⟨rfl, (hI.sub sn)⟩
theorem wk129 {wm : Nat} {H : AHeap} {Fr : List Ent}  (x1 : Int)   (hI : Kn wm H [] Fr) {r : Int} (h0 : M.math_bits_Len64 x1 = some r) :
  wpF Try.prog ora wm 129 [.int .u64 x1] H (fun res H => res = .int .i64 r ∧ Kn wm H [] Fr) := by
 unfold M.math_bits_Len64 at h0
 refine f_enter (n := 25) Try.func129 rfl (by simp) hI rfl rfl rfl fun tm hS => ?_
 clear hI
 refine cr1 hS rfl rfl ?_; clear hS
 intro tm hS
 obtain ⟨k1, h1, h0⟩ := bindS h0
 refine c_seqJ (J := fun tm H => (match (generalizing := false) k1 with | (x2, n1) => S wm 25 tm H [(0, .int .u64 x2), (2, .int .i64 n1)] [] Fr)) ?_ ?_
 ·refine cr2 hS rfl rfl rfl rfl ?_; clear hS
  intro tm hS
  refine c_cond hS rfl (fun hc => ?_) (fun hc => ?_)
  ·replace h1 := iteT hc h1
   refine cr3 hS rfl rfl rfl rfl rfl rfl ?_; clear hS
   intro tm hS
   refine cs1 hS rfl rfl ?_; clear hS
   intro tm hS
   obtain rfl := Option.some.inj h1
   change S wm 25 _ _ _ _ Fr; exact hS.keep (k2 rfl rfl) (fun hI => (hI.sub sn))
  ·replace h1 := iteF hc h1
   refine wpC.skip ?_
   obtain rfl := Option.some.inj h1
   change S wm 25 _ _ _ _ Fr; exact hS.keep (k2 rfl rfl) (fun hI => (hI.sub sn))
 intro tm H hS
 obtain ⟨x2, n1⟩ := k1
 change S wm 25 tm H [(0, .int .u64 x2), (2, .int .i64 n1)] [] Fr at hS
 obtain ⟨k2, h2, h0⟩ := bindS h0
 refine c_seqJ (J := fun tm H => (match (generalizing := false) k2 with | (x3, n2) => S wm 25 tm H [(0, .int .u64 x3), (2, .int .i64 n2)] [] Fr)) ?_ ?_
 ·refine cr2 hS rfl rfl rfl rfl ?_; clear hS
  intro tm hS
  refine c_cond hS rfl (fun hc => ?_) (fun hc => ?_)
  ·replace h2 := iteT hc h2
   refine cr3 hS rfl rfl rfl rfl rfl rfl ?_; clear hS
   intro tm hS
   refine cs3 hS rfl rfl rfl rfl rfl rfl ?_; clear hS
   intro tm hS
   obtain rfl := Option.some.inj h2
   change S wm 25 _ _ _ _ Fr; exact hS.keep (k2 rfl rfl) (fun hI => (hI.sub sn))
  ·replace h2 := iteF hc h2
   refine wpC.skip ?_
   obtain rfl := Option.some.inj h2
   change S wm 25 _ _ _ _ Fr; exact hS.keep (k2 rfl rfl) (fun hI => (hI.sub sn))
 intro tm H hS
 obtain ⟨x3, n2⟩ := k2
 change S wm 25 tm H [(0, .int .u64 x3), (2, .int .i64 n2)] [] Fr at hS
 obtain ⟨k3, h3, h0⟩ := bindS h0
 refine c_seqJ (J := fun tm H => (match (generalizing := false) k3 with | (x4, n3) => S wm 25 tm H [(0, .int .u64 x4), (2, .int .i64 n3)] [] Fr)) ?_ ?_
 ·refine cr2 hS rfl rfl rfl rfl ?_; clear hS
  intro tm hS
  refine c_cond hS rfl (fun hc => ?_) (fun hc => ?_)
  ·replace h3 := iteT hc h3
   refine cr3 hS rfl rfl rfl rfl rfl rfl ?_; clear hS
   intro tm hS
   refine cs3 hS rfl rfl rfl rfl rfl rfl ?_; clear hS
   intro tm hS
   obtain rfl := Option.some.inj h3
   change S wm 25 _ _ _ _ Fr; exact hS.keep (k2 rfl rfl) (fun hI => (hI.sub sn))
  ·replace h3 := iteF hc h3
   refine wpC.skip ?_
   obtain rfl := Option.some.inj h3
   change S wm 25 _ _ _ _ Fr; exact hS.keep (k2 rfl rfl) (fun hI => (hI.sub sn))
 intro tm H hS
 obtain ⟨x4, n3⟩ := k3
 change S wm 25 tm H [(0, .int .u64 x4), (2, .int .i64 n3)] [] Fr at hS
 refine c_reg fun R hR => ?_
 refine pp3 hS rfl rfl rfl rfl rfl rfl ?_; clear hS
 intro tm hS
 obtain ⟨y1, hx1, h0⟩ := bindS h0
 refine o_sidx hS (.inl rfl) rfl rfl rfl Fu9 hx1 ?_; clear hS
 intro tm hS
 refine pp3 hS rfl rfl rfl rfl rfl rfl ?_; clear hS
 intro tm hS
 refine o_nil (hR _ _ ?_)
 clear hR R
 refine wpC.ret ?_
 obtain rfl := Option.some.inj h0
 refine Exists.intro _ (And.intro (rs_tmp hS rfl rs_nil) ?_)
 have hI := hS.inv
 exact ⟨rfl, (hI.sub sn)⟩
theorem wk128 {wm : Nat} {H : AHeap} {Fr : List Ent}  (x1 : Int)   (hI : Kn wm H [] Fr) {r : Int} (h0 : M.math_bits_LeadingZeros64 x1 = some r) :
  wpF Try.prog ora wm 128 [.int .u64 x1] H (fun res H => res = .int .i64 r ∧ Kn wm H [] Fr) := by
 unfold M.math_bits_LeadingZeros64 at h0
 refine f_enter (n := 6) Try.func128 rfl (by simp) hI rfl rfl rfl fun tm hS => ?_
 clear hI
 refine cr1 hS rfl rfl ?_; clear hS
 intro tm hS
 refine c_reg fun R hR => ?_
 refine pp1 hS rfl rfl ?_; clear hS
 intro tm hS
 obtain ⟨r1, hx1, h0⟩ := bindS h0
 refine o_call hS (.inl rfl) rfl (fun wm' hw1 hw2 => wk129  x1   (hS.sel hw2) hx1) (fun wm' res H hw' hp => ?_)
 obtain ⟨hres, hI⟩ := hp
 replace hres := hres.symm; subst hres
 replace hS : S wm 6 _ H ((4, .int .i64 r1) :: _) ([] ++ _) Fr := hS.after rfl hw' hI
 clear hI hw'
 refine pp2 hS rfl rfl rfl rfl ?_; clear hS
 intro tm hS
 refine o_nil (hR _ _ ?_)
 clear hR R
 refine wpC.ret ?_
 obtain rfl := Option.some.inj h0
 refine Exists.intro _ (And.intro (rs_tmp hS rfl rs_nil) ?_)
 have hI := hS.inv
 exact ⟨rfl, (hI.sub sn)⟩
theorem wk127 {wm : Nat} {H : AHeap} {Fr : List Ent}  (hi1 : Int) (lo1 : Int) (y1 : Int)   (hI : Kn wm H [] Fr) {r : Int × Int} (h0 : M.math_bits_Div64 hi1 lo1 y1 = some r) :
  wpF Try.prog ora wm 127 [.int .u64 hi1, .int .u64 lo1, .int .u64 y1] H (fun res H => res = .tuple #[.int .u64 r.1, .int .u64 r.2] ∧ Kn wm H [] Fr) := by
 unfold M.math_bits_Div64 at h0
 refine f_enter (n := 135) Try.func127 rfl (by simp) hI rfl rfl rfl fun tm hS => ?_
 clear hI
 refine cr2 hS rfl rfl rfl rfl ?_; clear hS
 intro tm hS
 refine c_seqS ?_
 refine cr2 hS rfl rfl rfl rfl ?_; clear hS
 intro tm hS
 refine c_cond hS rfl (fun hc => ?_) (fun hc => ?_)
 ·replace h0 := iteT hc h0
  cases h0
 ·replace h0 := iteF hc h0
  refine wpC.skip ?_
  refine c_seqS ?_
  refine cr3 hS rfl rfl rfl rfl rfl rfl ?_; clear hS
  intro tm hS
  refine c_cond hS rfl (fun hc => ?_) (fun hc => ?_)
  ·replace h0 := iteT hc h0
   cases h0
  ·replace h0 := iteF hc h0
   refine wpC.skip ?_
   refine c_seqS ?_
   refine cr2 hS rfl rfl rfl rfl ?_; clear hS
   intro tm hS
   refine c_cond hS rfl (fun hc => ?_) (fun hc => ?_)
   ·replace h0 := iteT hc h0
    refine c_reg fun R hR => ?_
    refine pp2 hS rfl rfl rfl rfl ?_; clear hS
    intro tm hS
    obtain ⟨q1, hx1, h0⟩ := bindS h0
    refine o_quo hS (.inl rfl) rfl rfl rfl hx1 ?_; clear hS
    intro tm hS
    refine pp2 hS rfl rfl rfl rfl ?_; clear hS
    intro tm hS
    obtain ⟨q2, hx2, h0⟩ := bindS h0
    refine o_rem hS (.inl rfl) rfl rfl rfl hx2 ?_; clear hS
    intro tm hS
    refine pp2 hS rfl rfl rfl rfl ?_; clear hS
    intro tm hS
    refine o_nil (hR _ _ ?_)
    clear hR R
    refine wpC.ret ?_
    obtain rfl := Option.some.inj h0
    refine Exists.intro _ (And.intro (rs_tmp hS rfl (rs_tmp hS rfl rs_nil)) ?_)
    have hI := hS.inv
    exact ⟨rfl, (hI.sub sn)⟩
   ·replace h0 := iteF hc h0
    refine wpC.skip ?_
    refine c_reg fun R hR => ?_
    refine pp1 hS rfl rfl ?_; clear hS
    intro tm hS
    obtain ⟨r1, hx3, h0⟩ := bindS h0
    refine o_call hS (.inl rfl) rfl (fun wm' hw1 hw2 => wk128  y1   (hS.sel hw2) hx3) (fun wm' res H hw' hp => ?_)
    obtain ⟨hres, hI⟩ := hp
    replace hres := hres.symm; subst hres
    replace hS : S wm 135 _ H ((35, .int .i64 r1) :: _) ([] ++ _) Fr := hS.after rfl hw' hI
    clear hI hw'
    refine pp2 hS rfl rfl rfl rfl ?_; clear hS
    intro tm hS
    refine o_nil (hR _ _ ?_)
    clear hR R
    refine c_reg fun R hR => ?_
    refine pp2 hS rfl rfl rfl rfl ?_; clear hS
    intro tm hS
    obtain ⟨q3, hx4, h0⟩ := bindS h0
    refine o_shl hS (.inl rfl) rfl rfl rfl hx4 ?_; clear hS
    intro tm hS
    refine pp1 hS rfl rfl ?_; clear hS
    intro tm hS
    refine o_nil (hR _ _ ?_)
    clear hR R
    refine cr3 hS rfl rfl rfl rfl rfl rfl ?_; clear hS
    intro tm hS
    refine cr3 hS rfl rfl rfl rfl rfl rfl ?_; clear hS
    intro tm hS
    refine c_reg fun R hR => ?_
    refine pp2 hS rfl rfl rfl rfl ?_; clear hS
    intro tm hS
    obtain ⟨q4, hx5, h0⟩ := bindS h0
    refine o_shl hS (.inl rfl) rfl rfl rfl hx5 ?_; clear hS
    intro tm hS
    refine pp3 hS rfl rfl rfl rfl rfl rfl ?_; clear hS
    intro tm hS
    obtain ⟨q5, hx6, h0⟩ := bindS h0
    refine o_shr hS (.inl rfl) rfl rfl rfl hx6 ?_; clear hS
    intro tm hS
    refine pp2 hS rfl rfl rfl rfl ?_; clear hS
    intro tm hS
    refine o_nil (hR _ _ ?_)
    clear hR R
    refine c_reg fun R hR => ?_
    refine pp2 hS rfl rfl rfl rfl ?_; clear hS
    intro tm hS
    obtain ⟨q6, hx7, h0⟩ := bindS h0
    refine o_shl hS (.inl rfl) rfl rfl rfl hx7 ?_; clear hS
    intro tm hS
    refine pp1 hS rfl rfl ?_; clear hS
    intro tm hS
    refine o_nil (hR _ _ ?_)
    clear hR R
    refine cr3 hS rfl rfl rfl rfl rfl rfl ?_; clear hS
    intro tm hS
    refine cr3 hS rfl rfl rfl rfl rfl rfl ?_; clear hS
    intro tm hS
    refine c_reg fun R hR => ?_
    refine pp2 hS rfl rfl rfl rfl ?_; clear hS
    intro tm hS
    obtain ⟨q7, hx8, h0⟩ := bindS h0
    refine o_quo hS (.inl rfl) rfl rfl rfl hx8 ?_; clear hS
    intro tm hS
    refine pp1 hS rfl rfl ?_; clear hS
    intro tm hS
    refine o_nil (hR _ _ ?_)
    clear hR R
    refine c_reg fun R hR => ?_
    refine pp6 hS rfl rfl rfl rfl rfl rfl rfl rfl rfl rfl rfl rfl ?_; clear hS
    intro tm hS
    refine o_nil (hR _ _ ?_)
    clear hR R
    obtain ⟨q8, h2, h0⟩ := bindS h0
    refine c_seqJ (J := fun tm H => (match (generalizing := false) q8 with | q8 => S wm 135 tm H [(2, .int .u64 q3), (8, .int .u64 (IntKind.u64.wrap r1)), (9, .int .u64 (Int.fdiv q3 (2 ^ (min (Int.toNat 32) IntKind.u64.bits)))), (10, .int .u64 (IntKind.u64.wrap (BitVec.ofInt IntKind.u64.bits q3 &&& BitVec.ofInt IntKind.u64.bits 4294967295).toNat)), (11, .int .u64 (IntKind.u64.wrap (BitVec.ofInt IntKind.u64.bits q4 ||| BitVec.ofInt IntKind.u64.bits q5).toNat)), (13, .int .u64 (Int.fdiv q6 (2 ^ (min (Int.toNat 32) IntKind.u64.bits)))), (14, .int .u64 (IntKind.u64.wrap (BitVec.ofInt IntKind.u64.bits q6 &&& BitVec.ofInt IntKind.u64.bits 4294967295).toNat)), (15, .int .u64 q8)] [] Fr)) ?_ ?_
    ·obtain ⟨k1, hw1, h2⟩ := bindS h2
     refine wpC.block ?_
     refine c_loop (I := fun (s : Int × Int) tm H => match (generalizing := false) s with | (q9, rhat1) => S wm 135 tm H [(2, .int .u64 q3), (8, .int .u64 (IntKind.u64.wrap r1)), (9, .int .u64 (Int.fdiv q3 (2 ^ (min (Int.toNat 32) IntKind.u64.bits)))), (10, .int .u64 (IntKind.u64.wrap (BitVec.ofInt IntKind.u64.bits q3 &&& BitVec.ofInt IntKind.u64.bits 4294967295).toNat)), (11, .int .u64 (IntKind.u64.wrap (BitVec.ofInt IntKind.u64.bits q4 ||| BitVec.ofInt IntKind.u64.bits q5).toNat)), (13, .int .u64 (Int.fdiv q6 (2 ^ (min (Int.toNat 32) IntKind.u64.bits)))), (14, .int .u64 (IntKind.u64.wrap (BitVec.ofInt IntKind.u64.bits q6 &&& BitVec.ofInt IntKind.u64.bits 4294967295).toNat)), (15, .int .u64 q9), (16, .int .u64 rhat1)] [] Fr) hw1 (by change S wm 135 _ _ _ _ Fr; exact hS.keep (k9 rfl rfl rfl rfl rfl rfl rfl rfl rfl) (fun hI => (hI.sub sn))) ?_
     clear hS
     intro s1 tm H c1 hS h3 hq3
     obtain ⟨q9, rhat1⟩ := s1
     change S wm 135 tm H [(2, .int .u64 q3), (8, .int .u64 (IntKind.u64.wrap r1)), (9, .int .u64 (Int.fdiv q3 (2 ^ (min (Int.toNat 32) IntKind.u64.bits)))), (10, .int .u64 (IntKind.u64.wrap (BitVec.ofInt IntKind.u64.bits q3 &&& BitVec.ofInt IntKind.u64.bits 4294967295).toNat)), (11, .int .u64 (IntKind.u64.wrap (BitVec.ofInt IntKind.u64.bits q4 ||| BitVec.ofInt IntKind.u64.bits q5).toNat)), (13, .int .u64 (Int.fdiv q6 (2 ^ (min (Int.toNat 32) IntKind.u64.bits)))), (14, .int .u64 (IntKind.u64.wrap (BitVec.ofInt IntKind.u64.bits q6 &&& BitVec.ofInt IntKind.u64.bits 4294967295).toNat)), (15, .int .u64 q9), (16, .int .u64 rhat1)] [] Fr at hS
     refine c_seqS ?_
     refine c_reg fun R hR => ?_
     refine pp3 hS rfl rfl rfl rfl rfl rfl ?_; clear hS
     intro tm hS
     obtain ⟨c2, hc1⟩ : ∃ x : Bool, x = ((decide (q9 ≥ 4294967296)) || (decide ((IntKind.u64.wrap (q9 * (IntKind.u64.wrap (BitVec.ofInt IntKind.u64.bits q3 &&& BitVec.ofInt IntKind.u64.bits 4294967295).toNat))) > (IntKind.u64.wrap ((IntKind.u64.wrap (4294967296 * rhat1)) + (Int.fdiv q6 (2 ^ (min (Int.toNat 32) IntKind.u64.bits)))))))) := ⟨_, rfl⟩
     refine o_cutN 9 (J := fun tm H => S wm 135 tm H [(78, .bool c2), (2, .int .u64 q3), (8, .int .u64 (IntKind.u64.wrap r1)), (9, .int .u64 (Int.fdiv q3 (2 ^ (min (Int.toNat 32) IntKind.u64.bits)))), (10, .int .u64 (IntKind.u64.wrap (BitVec.ofInt IntKind.u64.bits q3 &&& BitVec.ofInt IntKind.u64.bits 4294967295).toNat)), (11, .int .u64 (IntKind.u64.wrap (BitVec.ofInt IntKind.u64.bits q4 ||| BitVec.ofInt IntKind.u64.bits q5).toNat)), (13, .int .u64 (Int.fdiv q6 (2 ^ (min (Int.toNat 32) IntKind.u64.bits)))), (14, .int .u64 (IntKind.u64.wrap (BitVec.ofInt IntKind.u64.bits q6 &&& BitVec.ofInt IntKind.u64.bits 4294967295).toNat)), (15, .int .u64 q9), (16, .int .u64 rhat1)] [] Fr) ?_ ?_
     ·rcases Bool.eq_false_or_eq_true (decide (q9 ≥ 4294967296)) with hg1 | hg1
      ·refine o_skip hS rfl rfl rfl hg1 ?_; clear hS
       intro tm hS
       refine o_skip hS rfl rfl rfl hg1 ?_; clear hS
       intro tm hS
       refine o_skip hS rfl rfl rfl hg1 ?_; clear hS
       intro tm hS
       refine o_skip hS rfl rfl rfl hg1 ?_; clear hS
       intro tm hS
       refine o_skip hS rfl rfl rfl hg1 ?_; clear hS
       intro tm hS
       refine o_skip hS rfl rfl rfl hg1 ?_; clear hS
       intro tm hS
       refine o_skip hS rfl rfl rfl hg1 ?_; clear hS
       intro tm hS
       refine o_skip hS rfl rfl rfl hg1 ?_; clear hS
       intro tm hS
       refine o_pickT hS (.inl rfl) rfl rfl hg1 rfl ?_; clear hS
       intro tm hS
       have hc1 : c2 = true := hc1.trans (by rw [hg1]; first | rfl | simp)
       subst hc1
       exact o_nil (hS.keep (k10 rfl rfl rfl rfl rfl rfl rfl rfl rfl rfl) (fun hI => (hI.sub sn)))
      ·refine o_pure hS (.inr ⟨_, _, _, _, rfl, rfl, rfl, hg1⟩) rfl rfl ?_; clear hS
       intro tm hS
       refine o_pure hS (.inr ⟨_, _, _, _, rfl, rfl, rfl, hg1⟩) rfl rfl ?_; clear hS
       intro tm hS
       refine o_pure hS (.inr ⟨_, _, _, _, rfl, rfl, rfl, hg1⟩) rfl rfl ?_; clear hS
       intro tm hS
       refine o_pure hS (.inr ⟨_, _, _, _, rfl, rfl, rfl, hg1⟩) rfl rfl ?_; clear hS
       intro tm hS
       refine o_pure hS (.inr ⟨_, _, _, _, rfl, rfl, rfl, hg1⟩) rfl rfl ?_; clear hS
       intro tm hS
       refine o_pure hS (.inr ⟨_, _, _, _, rfl, rfl, rfl, hg1⟩) rfl rfl ?_; clear hS
       intro tm hS
       refine o_pure hS (.inr ⟨_, _, _, _, rfl, rfl, rfl, hg1⟩) rfl rfl ?_; clear hS
       intro tm hS
       refine o_pure hS (.inr ⟨_, _, _, _, rfl, rfl, rfl, hg1⟩) rfl rfl ?_; clear hS
       intro tm hS
       refine o_pickF hS (.inl rfl) rfl rfl hg1 rfl ?_; clear hS
       intro tm hS
       have hc1 : c2 = (decide ((IntKind.u64.wrap (q9 * (IntKind.u64.wrap (BitVec.ofInt IntKind.u64.bits q3 &&& BitVec.ofInt IntKind.u64.bits 4294967295).toNat))) > (IntKind.u64.wrap ((IntKind.u64.wrap (4294967296 * rhat1)) + (Int.fdiv q6 (2 ^ (min (Int.toNat 32) IntKind.u64.bits))))))) := hc1.trans (by rw [hg1]; first | rfl | simp)
       subst hc1
       exact o_nil (hS.keep (k10 rfl rfl rfl rfl rfl rfl rfl rfl rfl rfl) (fun hI => (hI.sub sn)))
     intro tm H hS
     subst hc1
     refine o_nil (hR _ _ ?_)
     clear hR R
     refine c_cond hS rfl (fun hc => ?_) (fun hc => ?_)
     ·replace h3 := iteT hc h3
      refine wpC.skip ?_
      refine wpC.block ?_
      refine cr3 hS rfl rfl rfl rfl rfl rfl ?_; clear hS
      intro tm hS
      refine cr4 hS rfl rfl rfl rfl rfl rfl rfl rfl ?_; clear hS
      intro tm hS
      refine cr2 hS rfl rfl rfl rfl ?_; clear hS
      intro tm hS
      refine c_cond hS rfl (fun hc => ?_) (fun hc => ?_)
      ·replace h3 := iteT hc h3
       refine wpC.exit ?_
       refine blk_ne (id := 1) (i := 0) (by decide) ?_
       obtain rfl := Option.some.inj h3
       obtain rfl := hq3 _ rfl
       refine And.intro rfl (blk_eq ?_)
       replace h2 := joinN h2
       obtain rfl := Option.some.inj h2
       change S wm 135 _ _ _ _ Fr; exact hS.keep (k8 rfl rfl rfl rfl rfl rfl rfl rfl) (fun hI => (hI.sub sn))
      ·replace h3 := iteF hc h3
       refine wpC.skip ?_
       obtain rfl := Option.some.inj h3
       refine ⟨_, rfl, ?_⟩
       change S wm 135 _ _ _ _ Fr; exact hS.keep (k9 rfl rfl rfl rfl rfl rfl rfl rfl rfl) (fun hI => (hI.sub sn))
     ·replace h3 := iteF hc h3
      refine wpC.exit ?_
      refine seqX ?_
      obtain rfl := Option.some.inj h3
      obtain rfl := hq3 _ rfl
      refine And.intro rfl (blk_eq ?_)
      replace h2 := joinN h2
      obtain rfl := Option.some.inj h2
      change S wm 135 _ _ _ _ Fr; exact hS.keep (k8 rfl rfl rfl rfl rfl rfl rfl rfl) (fun hI => (hI.sub sn))
    intro tm H hS
    change S wm 135 tm H [(2, .int .u64 q3), (8, .int .u64 (IntKind.u64.wrap r1)), (9, .int .u64 (Int.fdiv q3 (2 ^ (min (Int.toNat 32) IntKind.u64.bits)))), (10, .int .u64 (IntKind.u64.wrap (BitVec.ofInt IntKind.u64.bits q3 &&& BitVec.ofInt IntKind.u64.bits 4294967295).toNat)), (11, .int .u64 (IntKind.u64.wrap (BitVec.ofInt IntKind.u64.bits q4 ||| BitVec.ofInt IntKind.u64.bits q5).toNat)), (13, .int .u64 (Int.fdiv q6 (2 ^ (min (Int.toNat 32) IntKind.u64.bits)))), (14, .int .u64 (IntKind.u64.wrap (BitVec.ofInt IntKind.u64.bits q6 &&& BitVec.ofInt IntKind.u64.bits 4294967295).toNat)), (15, .int .u64 q8)] [] Fr at hS
    refine c_reg fun R hR => ?_
    refine pp6 hS rfl rfl rfl rfl rfl rfl rfl rfl rfl rfl rfl rfl ?_; clear hS
    intro tm hS
    refine pp3 hS rfl rfl rfl rfl rfl rfl ?_; clear hS
    intro tm hS
    refine o_nil (hR _ _ ?_)
    clear hR R
    refine c_reg fun R hR => ?_
    refine pp2 hS rfl rfl rfl rfl ?_; clear hS
    intro tm hS
    obtain ⟨q10, hx9, h0⟩ := bindS h0
    refine o_quo hS (.inl rfl) rfl rfl rfl hx9 ?_; clear hS
    intro tm hS
    refine pp1 hS rfl rfl ?_; clear hS
    intro tm hS
    refine o_nil (hR _ _ ?_)
    clear hR R
    refine c_reg fun R hR => ?_
    refine pp6 hS rfl rfl rfl rfl rfl rfl rfl rfl rfl rfl rfl rfl ?_; clear hS
    intro tm hS
    refine o_nil (hR _ _ ?_)
    clear hR R
    obtain ⟨q11, h5, h0⟩ := bindS h0
    refine c_seqJ (J := fun tm H => (match (generalizing := false) q11 with | q11 => S wm 135 tm H [(2, .int .u64 q3), (8, .int .u64 (IntKind.u64.wrap r1)), (14, .int .u64 (IntKind.u64.wrap (BitVec.ofInt IntKind.u64.bits q6 &&& BitVec.ofInt IntKind.u64.bits 4294967295).toNat)), (15, .int .u64 q8), (17, .int .u64 (IntKind.u64.wrap ((IntKind.u64.wrap ((IntKind.u64.wrap ((IntKind.u64.wrap (BitVec.ofInt IntKind.u64.bits q4 ||| BitVec.ofInt IntKind.u64.bits q5).toNat) * 4294967296)) + (Int.fdiv q6 (2 ^ (min (Int.toNat 32) IntKind.u64.bits))))) - (IntKind.u64.wrap (q8 * q3))))), (18, .int .u64 q11)] [] Fr)) ?_ ?_
    ·obtain ⟨k2, hw2, h5⟩ := bindS h5
     refine wpC.block ?_
     refine c_loop (I := fun (s : Int × Int) tm H => match (generalizing := false) s with | (rhat2, q12) => S wm 135 tm H [(2, .int .u64 q3), (8, .int .u64 (IntKind.u64.wrap r1)), (9, .int .u64 (Int.fdiv q3 (2 ^ (min (Int.toNat 32) IntKind.u64.bits)))), (10, .int .u64 (IntKind.u64.wrap (BitVec.ofInt IntKind.u64.bits q3 &&& BitVec.ofInt IntKind.u64.bits 4294967295).toNat)), (14, .int .u64 (IntKind.u64.wrap (BitVec.ofInt IntKind.u64.bits q6 &&& BitVec.ofInt IntKind.u64.bits 4294967295).toNat)), (15, .int .u64 q8), (16, .int .u64 rhat2), (17, .int .u64 (IntKind.u64.wrap ((IntKind.u64.wrap ((IntKind.u64.wrap ((IntKind.u64.wrap (BitVec.ofInt IntKind.u64.bits q4 ||| BitVec.ofInt IntKind.u64.bits q5).toNat) * 4294967296)) + (Int.fdiv q6 (2 ^ (min (Int.toNat 32) IntKind.u64.bits))))) - (IntKind.u64.wrap (q8 * q3))))), (18, .int .u64 q12)] [] Fr) hw2 (by change S wm 135 _ _ _ _ Fr; exact hS.keep (k9 rfl rfl rfl rfl rfl rfl rfl rfl rfl) (fun hI => (hI.sub sn))) ?_
     clear hS
     intro s2 tm H c3 hS h6 hq6
     obtain ⟨rhat2, q12⟩ := s2
     change S wm 135 tm H [(2, .int .u64 q3), (8, .int .u64 (IntKind.u64.wrap r1)), (9, .int .u64 (Int.fdiv q3 (2 ^ (min (Int.toNat 32) IntKind.u64.bits)))), (10, .int .u64 (IntKind.u64.wrap (BitVec.ofInt IntKind.u64.bits q3 &&& BitVec.ofInt IntKind.u64.bits 4294967295).toNat)), (14, .int .u64 (IntKind.u64.wrap (BitVec.ofInt IntKind.u64.bits q6 &&& BitVec.ofInt IntKind.u64.bits 4294967295).toNat)), (15, .int .u64 q8), (16, .int .u64 rhat2), (17, .int .u64 (IntKind.u64.wrap ((IntKind.u64.wrap ((IntKind.u64.wrap ((IntKind.u64.wrap (BitVec.ofInt IntKind.u64.bits q4 ||| BitVec.ofInt IntKind.u64.bits q5).toNat) * 4294967296)) + (Int.fdiv q6 (2 ^ (min (Int.toNat 32) IntKind.u64.bits))))) - (IntKind.u64.wrap (q8 * q3))))), (18, .int .u64 q12)] [] Fr at hS
     refine c_seqS ?_
     refine c_reg fun R hR => ?_
     refine pp3 hS rfl rfl rfl rfl rfl rfl ?_; clear hS
     intro tm hS
     obtain ⟨c4, hc2⟩ : ∃ x : Bool, x = ((decide (q12 ≥ 4294967296)) || (decide ((IntKind.u64.wrap (q12 * (IntKind.u64.wrap (BitVec.ofInt IntKind.u64.bits q3 &&& BitVec.ofInt IntKind.u64.bits 4294967295).toNat))) > (IntKind.u64.wrap ((IntKind.u64.wrap (4294967296 * rhat2)) + (IntKind.u64.wrap (BitVec.ofInt IntKind.u64.bits q6 &&& BitVec.ofInt IntKind.u64.bits 4294967295).toNat)))))) := ⟨_, rfl⟩
     refine o_cutN 9 (J := fun tm H => S wm 135 tm H [(113, .bool c4), (2, .int .u64 q3), (8, .int .u64 (IntKind.u64.wrap r1)), (9, .int .u64 (Int.fdiv q3 (2 ^ (min (Int.toNat 32) IntKind.u64.bits)))), (10, .int .u64 (IntKind.u64.wrap (BitVec.ofInt IntKind.u64.bits q3 &&& BitVec.ofInt IntKind.u64.bits 4294967295).toNat)), (14, .int .u64 (IntKind.u64.wrap (BitVec.ofInt IntKind.u64.bits q6 &&& BitVec.ofInt IntKind.u64.bits 4294967295).toNat)), (15, .int .u64 q8), (16, .int .u64 rhat2), (17, .int .u64 (IntKind.u64.wrap ((IntKind.u64.wrap ((IntKind.u64.wrap ((IntKind.u64.wrap (BitVec.ofInt IntKind.u64.bits q4 ||| BitVec.ofInt IntKind.u64.bits q5).toNat) * 4294967296)) + (Int.fdiv q6 (2 ^ (min (Int.toNat 32) IntKind.u64.bits))))) - (IntKind.u64.wrap (q8 * q3))))), (18, .int .u64 q12)] [] Fr) ?_ ?_
     ·rcases Bool.eq_false_or_eq_true (decide (q12 ≥ 4294967296)) with hg2 | hg2
      ·refine o_skip hS rfl rfl rfl hg2 ?_; clear hS
       intro tm hS
       refine o_skip hS rfl rfl rfl hg2 ?_; clear hS
       intro tm hS
       refine o_skip hS rfl rfl rfl hg2 ?_; clear hS
       intro tm hS
       refine o_skip hS rfl rfl rfl hg2 ?_; clear hS
       intro tm hS
       refine o_skip hS rfl rfl rfl hg2 ?_; clear hS
       intro tm hS
       refine o_skip hS rfl rfl rfl hg2 ?_; clear hS
       intro tm hS
       refine o_skip hS rfl rfl rfl hg2 ?_; clear hS
       intro tm hS
       refine o_skip hS rfl rfl rfl hg2 ?_; clear hS
       intro tm hS
       refine o_pickT hS (.inl rfl) rfl rfl hg2 rfl ?_; clear hS
       intro tm hS
       have hc2 : c4 = true := hc2.trans (by rw [hg2]; first | rfl | simp)
       subst hc2
       exact o_nil (hS.keep (k10 rfl rfl rfl rfl rfl rfl rfl rfl rfl rfl) (fun hI => (hI.sub sn)))
      ·refine o_pure hS (.inr ⟨_, _, _, _, rfl, rfl, rfl, hg2⟩) rfl rfl ?_; clear hS
       intro tm hS
       refine o_pure hS (.inr ⟨_, _, _, _, rfl, rfl, rfl, hg2⟩) rfl rfl ?_; clear hS
       intro tm hS
       refine o_pure hS (.inr ⟨_, _, _, _, rfl, rfl, rfl, hg2⟩) rfl rfl ?_; clear hS
       intro tm hS
       refine o_pure hS (.inr ⟨_, _, _, _, rfl, rfl, rfl, hg2⟩) rfl rfl ?_; clear hS
       intro tm hS
       refine o_pure hS (.inr ⟨_, _, _, _, rfl, rfl, rfl, hg2⟩) rfl rfl ?_; clear hS
       intro tm hS
       refine o_pure hS (.inr ⟨_, _, _, _, rfl, rfl, rfl, hg2⟩) rfl rfl ?_; clear hS
       intro tm hS
       refine o_pure hS (.inr ⟨_, _, _, _, rfl, rfl, rfl, hg2⟩) rfl rfl ?_; clear hS
       intro tm hS
       refine o_pure hS (.inr ⟨_, _, _, _, rfl, rfl, rfl, hg2⟩) rfl rfl ?_; clear hS
       intro tm hS
       refine o_pickF hS (.inl rfl) rfl rfl hg2 rfl ?_; clear hS
       intro tm hS
       have hc2 : c4 = (decide ((IntKind.u64.wrap (q12 * (IntKind.u64.wrap (BitVec.ofInt IntKind.u64.bits q3 &&& BitVec.ofInt IntKind.u64.bits 4294967295).toNat))) > (IntKind.u64.wrap ((IntKind.u64.wrap (4294967296 * rhat2)) + (IntKind.u64.wrap (BitVec.ofInt IntKind.u64.bits q6 &&& BitVec.ofInt IntKind.u64.bits 4294967295).toNat))))) := hc2.trans (by rw [hg2]; first | rfl | simp)
       subst hc2
       exact o_nil (hS.keep (k10 rfl rfl rfl rfl rfl rfl rfl rfl rfl rfl) (fun hI => (hI.sub sn)))
     intro tm H hS
     subst hc2
     refine o_nil (hR _ _ ?_)
     clear hR R
     refine c_cond hS rfl (fun hc => ?_) (fun hc => ?_)
     ·replace h6 := iteT hc h6
      refine wpC.skip ?_
      refine wpC.block ?_
      refine cr3 hS rfl rfl rfl rfl rfl rfl ?_; clear hS
      intro tm hS
      refine cr4 hS rfl rfl rfl rfl rfl rfl rfl rfl ?_; clear hS
      intro tm hS
      refine cr2 hS rfl rfl rfl rfl ?_; clear hS
      intro tm hS
      refine c_cond hS rfl (fun hc => ?_) (fun hc => ?_)
      ·replace h6 := iteT hc h6
       refine wpC.exit ?_
       refine blk_ne (id := 3) (i := 2) (by decide) ?_
       obtain rfl := Option.some.inj h6
       obtain rfl := hq6 _ rfl
       refine And.intro rfl (blk_eq ?_)
       replace h5 := joinN h5
       obtain rfl := Option.some.inj h5
       change S wm 135 _ _ _ _ Fr; exact hS.keep (k6 rfl rfl rfl rfl rfl rfl) (fun hI => (hI.sub sn))
      ·replace h6 := iteF hc h6
       refine wpC.skip ?_
       obtain rfl := Option.some.inj h6
       refine ⟨_, rfl, ?_⟩
       change S wm 135 _ _ _ _ Fr; exact hS.keep (k9 rfl rfl rfl rfl rfl rfl rfl rfl rfl) (fun hI => (hI.sub sn))
     ·replace h6 := iteF hc h6
      refine wpC.exit ?_
      refine seqX ?_
      obtain rfl := Option.some.inj h6
      obtain rfl := hq6 _ rfl
      refine And.intro rfl (blk_eq ?_)
      replace h5 := joinN h5
      obtain rfl := Option.some.inj h5
      change S wm 135 _ _ _ _ Fr; exact hS.keep (k6 rfl rfl rfl rfl rfl rfl) (fun hI => (hI.sub sn))
    intro tm H hS
    change S wm 135 tm H [(2, .int .u64 q3), (8, .int .u64 (IntKind.u64.wrap r1)), (14, .int .u64 (IntKind.u64.wrap (BitVec.ofInt IntKind.u64.bits q6 &&& BitVec.ofInt IntKind.u64.bits 4294967295).toNat)), (15, .int .u64 q8), (17, .int .u64 (IntKind.u64.wrap ((IntKind.u64.wrap ((IntKind.u64.wrap ((IntKind.u64.wrap (BitVec.ofInt IntKind.u64.bits q4 ||| BitVec.ofInt IntKind.u64.bits q5).toNat) * 4294967296)) + (Int.fdiv q6 (2 ^ (min (Int.toNat 32) IntKind.u64.bits))))) - (IntKind.u64.wrap (q8 * q3))))), (18, .int .u64 q11)] [] Fr at hS
    refine c_reg fun R hR => ?_
    refine pp6 hS rfl rfl rfl rfl rfl rfl rfl rfl rfl rfl rfl rfl ?_; clear hS
    intro tm hS
    refine pp6 hS rfl rfl rfl rfl rfl rfl rfl rfl rfl rfl rfl rfl ?_; clear hS
    intro tm hS
    refine pp1 hS rfl rfl ?_; clear hS
    intro tm hS
    obtain ⟨q13, hx10, h0⟩ := bindS h0
    refine o_shr hS (.inl rfl) rfl rfl rfl hx10 ?_; clear hS
    intro tm hS
    refine pp2 hS rfl rfl rfl rfl ?_; clear hS
    intro tm hS
    refine o_nil (hR _ _ ?_)
    clear hR R
    refine wpC.ret ?_
    obtain rfl := Option.some.inj h0
    refine Exists.intro _ (And.intro (rs_tmp hS rfl (rs_tmp hS rfl rs_nil)) ?_)
    have hI := hS.inv
    exact ⟨rfl, (hI.sub sn)⟩
theorem wk110 {wm : Nat} {H : AHeap} {Fr : List Ent}  (a1 : Int) (b1 : Int)   (hI : Kn wm H [] Fr) {r : Int × Bool} (h0 : M.ints_choose a1 b1 = some r) :
  wpF Try.prog ora wm 110 [.int .i64 a1, .int .i64 b1] H (fun res H => res = .tuple #[.int .i64 r.1, .bool r.2] ∧ Kn wm H [] Fr) := by
 unfold M.ints_choose at h0
 refine f_enter (n := 53) Try.func110 rfl (by simp) hI rfl rfl rfl fun tm hS => ?_
 clear hI
 refine cr2 hS rfl rfl rfl rfl ?_; clear hS
 intro tm hS
 refine c_seqS ?_
 refine c_reg fun R hR => ?_
 refine pp3 hS rfl rfl rfl rfl rfl rfl ?_; clear hS
 intro tm hS
 obtain ⟨c1, hc1⟩ : ∃ x : Bool, x = ((decide (a1 < 0)) || (decide (b1 < 0))) := ⟨_, rfl⟩
 refine o_cutN 3 (J := fun tm H => S wm 53 tm H [(15, .bool c1), (0, .int .i64 a1), (1, .int .i64 b1)] [] Fr) ?_ ?_
 ·rcases Bool.eq_false_or_eq_true (decide (a1 < 0)) with hg1 | hg1
  ·refine o_skip hS rfl rfl rfl hg1 ?_; clear hS
   intro tm hS
   refine o_skip hS rfl rfl rfl hg1 ?_; clear hS
   intro tm hS
   refine o_pickT hS (.inl rfl) rfl rfl hg1 rfl ?_; clear hS
   intro tm hS
   have hc1 : c1 = true := hc1.trans (by rw [hg1]; first | rfl | simp)
   subst hc1
   exact o_nil (hS.keep (k3 rfl rfl rfl) (fun hI => (hI.sub sn)))
  ·refine o_pure hS (.inr ⟨_, _, _, _, rfl, rfl, rfl, hg1⟩) rfl rfl ?_; clear hS
   intro tm hS
   refine o_pure hS (.inr ⟨_, _, _, _, rfl, rfl, rfl, hg1⟩) rfl rfl ?_; clear hS
   intro tm hS
   refine o_pickF hS (.inl rfl) rfl rfl hg1 rfl ?_; clear hS
   intro tm hS
   have hc1 : c1 = (decide (b1 < 0)) := hc1.trans (by rw [hg1]; first | rfl | simp)
   subst hc1
   exact o_nil (hS.keep (k3 rfl rfl rfl) (fun hI => (hI.sub sn)))
 intro tm H hS
 subst hc1
 refine o_nil (hR _ _ ?_)
 clear hR R
 refine c_cond hS rfl (fun hc => ?_) (fun hc => ?_)
 ·replace h0 := iteT hc h0
  refine cr2 hS rfl rfl rfl rfl ?_; clear hS
  intro tm hS
  refine wpC.ret ?_
  obtain rfl := Option.some.inj h0
  refine Exists.intro _ (And.intro (rs_tmp hS rfl (rs_tmp hS rfl rs_nil)) ?_)
  have hI := hS.inv
  exact ⟨rfl, (hI.sub sn)⟩
 ·replace h0 := iteF hc h0
  refine wpC.skip ?_
  refine c_seqS ?_
  refine cr3 hS rfl rfl rfl rfl rfl rfl ?_; clear hS
  intro tm hS
  refine c_cond hS rfl (fun hc => ?_) (fun hc => ?_)
  ·replace h0 := iteT hc h0
   refine cr2 hS rfl rfl rfl rfl ?_; clear hS
   intro tm hS
   refine wpC.ret ?_
   obtain rfl := Option.some.inj h0
   refine Exists.intro _ (And.intro (rs_tmp hS rfl (rs_tmp hS rfl rs_nil)) ?_)
   have hI := hS.inv
   exact ⟨rfl, (hI.sub sn)⟩
  ·replace h0 := iteF hc h0
   refine wpC.skip ?_
   refine cr1 hS rfl rfl ?_; clear hS
   intro tm hS
   refine c_seqS ?_
   refine c_reg fun R hR => ?_
   refine pp6 hS rfl rfl rfl rfl rfl rfl rfl rfl rfl rfl rfl rfl ?_; clear hS
   intro tm hS
   refine pp1 hS rfl rfl ?_; clear hS
   intro tm hS
   refine o_nil (hR _ _ ?_)
   clear hR R
   obtain ⟨k1, hw1, h0⟩ := bindS h0
   refine wpC.block ?_
   refine c_loop (I := fun (s : Int × Int) tm H => match (generalizing := false) s with | (c2, t1) => S wm 53 tm H [(1, .int .i64 b1), (6, .int .u64 c2), (24, .int .u64 (IntKind.u64.wrap (if (IntKind.i64.wrap (b1 - a1)) < a1 then (IntKind.i64.wrap (b1 - a1)) else a1))), (25, .int .u64 t1)] [] Fr) hw1 (by change S wm 53 _ _ _ _ Fr; exact hS.keep (k4 rfl rfl rfl rfl) (fun hI => (hI.sub sn))) ?_
   clear hS
   intro s1 tm H c3 hS h1 hq1
   obtain ⟨c2, t1⟩ := s1
   change S wm 53 tm H [(1, .int .i64 b1), (6, .int .u64 c2), (24, .int .u64 (IntKind.u64.wrap (if (IntKind.i64.wrap (b1 - a1)) < a1 then (IntKind.i64.wrap (b1 - a1)) else a1))), (25, .int .u64 t1)] [] Fr at hS
   refine cr1 hS rfl rfl ?_; clear hS
   intro tm hS
   refine c_seqS ?_
   refine c_cond hS rfl (fun hc => ?_) (fun hc => ?_)
   ·replace h1 := iteT hc h1
    refine wpC.skip ?_
    refine c_seqS ?_
    refine wpC.block ?_
    refine cr2 hS rfl rfl rfl rfl ?_; clear hS
    intro tm hS
    refine c_reg fun R hR => ?_
    refine pp5 hS rfl rfl rfl rfl rfl rfl rfl rfl rfl rfl ?_; clear hS
    intro tm hS
    obtain ⟨⟨r1, r2⟩, hx1, h1⟩ := bindS h1
    refine o_call hS (.inl rfl) rfl (fun wm' hw1 hw2 => wk125  c2 (IntKind.u64.wrap ((IntKind.u64.wrap b1) - t1))   (hS.sel hw2) hx1) (fun wm' res H hw' hp => ?_)
    obtain ⟨hres, hI⟩ := hp
    replace hres := hres.symm; subst hres
    replace hS : S wm 53 _ H ((34, .tuple #[.int .u64 r1, .int .u64 r2]) :: _) ([] ++ _) Fr := hS.after rfl hw' hI
    clear hI hw'
    refine pp5 hS rfl rfl rfl rfl rfl rfl rfl rfl rfl rfl ?_; clear hS
    intro tm hS
    refine o_nil (hR _ _ ?_)
    clear hR R
    refine c_seqS ?_
    refine cr3 hS rfl rfl rfl rfl rfl rfl ?_; clear hS
    intro tm hS
    refine c_cond hS rfl (fun hc => ?_) (fun hc => ?_)
    ·replace h1 := iteT hc h1
     refine cr2 hS rfl rfl rfl rfl ?_; clear hS
     intro tm hS
     refine wpC.ret ?_
     obtain rfl := Option.some.inj h1
     obtain rfl := hq1 _ rfl
     refine And.intro rfl ?_
     obtain rfl := leave h0
     refine Exists.intro _ (And.intro (rs_tmp hS rfl (rs_tmp hS rfl rs_nil)) ?_)
     have hI := hS.inv
     exact ⟨rfl, (hI.sub sn)⟩
    ·replace h1 := iteF hc h1
     refine wpC.skip ?_
     refine c_reg fun R hR => ?_
     refine pp4 hS rfl rfl rfl rfl rfl rfl rfl rfl ?_; clear hS
     intro tm hS
     obtain ⟨⟨r3, r4⟩, hx2, h1⟩ := bindS h1
     refine o_call hS (.inl rfl) rfl (fun wm' hw1 hw2 => wk127  r1 r2 (IntKind.u64.wrap (t1 + 1))   (hS.sel hw2) hx2) (fun wm' res H hw' hp => ?_)
     obtain ⟨hres, hI⟩ := hp
     replace hres := hres.symm; subst hres
     replace hS : S wm 53 _ H ((45, .tuple #[.int .u64 r3, .int .u64 r4]) :: _) ([] ++ _) Fr := hS.after rfl hw' hI
     clear hI hw'
     refine pp4 hS rfl rfl rfl rfl rfl rfl rfl rfl ?_; clear hS
     intro tm hS
     refine o_nil (hR _ _ ?_)
     clear hR R
     refine cr2 hS rfl rfl rfl rfl ?_; clear hS
     intro tm hS
     refine c_cond hS rfl (fun hc => ?_) (fun hc => ?_)
     ·replace h1 := iteT hc h1
      refine cr2 hS rfl rfl rfl rfl ?_; clear hS
      intro tm hS
      refine wpC.ret ?_
      obtain rfl := Option.some.inj h1
      obtain rfl := hq1 _ rfl
      refine And.intro rfl ?_
      obtain rfl := leave h0
      refine Exists.intro _ (And.intro (rs_tmp hS rfl (rs_tmp hS rfl rs_nil)) ?_)
      have hI := hS.inv
      exact ⟨rfl, (hI.sub sn)⟩
     ·replace h1 := iteF hc h1
      refine wpC.skip ?_
      refine cs2 hS rfl rfl rfl rfl ?_; clear hS
      intro tm hS
      obtain rfl := Option.some.inj h1
      refine ⟨_, rfl, ?_⟩
      change S wm 53 _ _ _ _ Fr; exact hS.keep (k4 rfl rfl rfl rfl) (fun hI => (hI.sub sn))
   ·replace h1 := iteF hc h1
    refine wpC.exit ?_
    refine seqX ?_
    obtain rfl := Option.some.inj h1
    obtain rfl := hq1 _ rfl
    refine And.intro rfl (blk_eq ?_)
    replace h0 := joinN h0
    refine cr4 hS rfl rfl rfl rfl rfl rfl rfl rfl ?_; clear hS
    intro tm hS
    refine wpC.ret ?_
    obtain rfl := Option.some.inj h0
    refine Exists.intro _ (And.intro (rs_tmp hS rfl (rs_tmp hS rfl rs_nil)) ?_)
    have hI := hS.inv
    exact ⟨rfl, (hI.sub sn)⟩
theorem wk111 {wm : Nat} {H : AHeap} {Fr : List Ent}  (a1 : Int) (b1 : Int)   (hI : Kn wm H [] Fr) {r : Int × Bool} (h0 : M.ints_dyads_1 a1 b1 = some r) :
  wpF Try.prog ora wm 111 [.int .i64 a1, .int .i64 b1] H (fun res H => res = .tuple #[.int .i64 r.1, .bool r.2] ∧ Kn wm H [] Fr) := by
 unfold M.ints_dyads_1 at h0
 refine f_enter (n := 9) Try.func111 rfl (by simp) hI rfl rfl rfl fun tm hS => ?_
 clear hI
 refine cr2 hS rfl rfl rfl rfl ?_; clear hS
 intro tm hS
 refine cr5 hS rfl rfl rfl rfl rfl rfl rfl rfl rfl rfl ?_; clear hS
 intro tm hS
 refine wpC.ret ?_
 obtain rfl := Option.some.inj h0
 refine Exists.intro _ (And.intro (rs_tmp hS rfl (rs_tmp hS rfl rs_nil)) ?_)
 have hI := hS.inv
 exact ⟨rfl, (hI.sub sn)⟩
theorem wk112 {wm : Nat} {H : AHeap} {Fr : List Ent}  (a1 : Int) (b1 : Int)   (hI : Kn wm H [] Fr) {r : Int × Bool} (h0 : M.ints_dyads_2 a1 b1 = some r) :
  wpF Try.prog ora wm 112 [.int .i64 a1, .int .i64 b1] H (fun res H => res = .tuple #[.int .i64 r.1, .bool r.2] ∧ Kn wm H [] Fr) := by
 unfold M.ints_dyads_2 at h0
 refine f_enter (n := 9) Try.func112 rfl (by simp) hI rfl rfl rfl fun tm hS => ?_
 clear hI
 refine cr2 hS rfl rfl rfl rfl ?_; clear hS
 intro tm hS
 refine cr5 hS rfl rfl rfl rfl rfl rfl rfl rfl rfl rfl ?_; clear hS
 intro tm hS
 refine wpC.ret ?_
 obtain rfl := Option.some.inj h0
 refine Exists.intro _ (And.intro (rs_tmp hS rfl (rs_tmp hS rfl rs_nil)) ?_)
 have hI := hS.inv
 exact ⟨rfl, (hI.sub sn)⟩
theorem wk114 {wm : Nat} {H : AHeap} {Fr : List Ent}  (b1 : Bool)   (hI : Kn wm H [] Fr) {r : Int × Bool} (h0 : M.ints_truth b1 = some r) :
  wpF Try.prog ora wm 114 [.bool b1] H (fun res H => res = .tuple #[.int .i64 r.1, .bool r.2] ∧ Kn wm H [] Fr) := by
 unfold M.ints_truth at h0
 refine f_enter (n := 5) Try.func114 rfl (by simp) hI rfl rfl rfl fun tm hS => ?_
 clear hI
 refine cr2 hS rfl rfl rfl rfl ?_; clear hS
 intro tm hS
 refine c_seqS ?_
 refine cr1 hS rfl rfl ?_; clear hS
 intro tm hS
 refine c_cond hS rfl (fun hc => ?_) (fun hc => ?_)
 ·replace h0 := iteT hc h0
  refine cr2 hS rfl rfl rfl rfl ?_; clear hS
  intro tm hS
  refine wpC.ret ?_
  obtain rfl := Option.some.inj h0
  refine Exists.intro _ (And.intro (rs_tmp hS rfl (rs_tmp hS rfl rs_nil)) ?_)
  have hI := hS.inv
  exact ⟨rfl, (hI.sub sn)⟩
 ·replace h0 := iteF hc h0
  refine wpC.skip ?_
  refine cr2 hS rfl rfl rfl rfl ?_; clear hS
  intro tm hS
  refine wpC.ret ?_
  obtain rfl := Option.some.inj h0
  refine Exists.intro _ (And.intro (rs_tmp hS rfl (rs_tmp hS rfl rs_nil)) ?_)
  have hI := hS.inv
  exact ⟨rfl, (hI.sub sn)⟩
theorem wk113 {wm : Nat} {H : AHeap} {Fr : List Ent}  (a1 : Int) (b1 : Int)   (hI : Kn wm H [] Fr) {r : Int × Bool} (h0 : M.ints_dyads_3 a1 b1 = some r) :
  wpF Try.prog ora wm 113 [.int .i64 a1, .int .i64 b1] H (fun res H => res = .tuple #[.int .i64 r.1, .bool r.2] ∧ Kn wm H [] Fr) := by
 unfold M.ints_dyads_3 at h0
 refine f_enter (n := 12) Try.func113 rfl (by simp) hI rfl rfl rfl fun tm hS => ?_
 clear hI
 refine cr2 hS rfl rfl rfl rfl ?_; clear hS
 intro tm hS
 refine c_reg fun R hR => ?_
 refine pp3 hS rfl rfl rfl rfl rfl rfl ?_; clear hS
 intro tm hS
 obtain ⟨⟨r1, r2⟩, hx1, h0⟩ := bindS h0
 refine o_call hS (.inl rfl) rfl (fun wm' hw1 hw2 => wk114  (decide (a1 < b1))   (hS.sel hw2) hx1) (fun wm' res H hw' hp => ?_)
 obtain ⟨hres, hI⟩ := hp
 replace hres := hres.symm; subst hres
 replace hS : S wm 12 _ H ((9, .tuple #[.int .i64 r1, .bool r2]) :: _) ([] ++ _) Fr := hS.after rfl hw' hI
 clear hI hw'
 refine pp4 hS rfl rfl rfl rfl rfl rfl rfl rfl ?_; clear hS
 intro tm hS
 refine o_nil (hR _ _ ?_)
 clear hR R
 refine wpC.ret ?_
 obtain rfl := Option.some.inj h0
 refine Exists.intro _ (And.intro (rs_tmp hS rfl (rs_tmp hS rfl rs_nil)) ?_)
 have hI := hS.inv
 exact ⟨rfl, (hI.sub sn)⟩
theorem wk115 {wm : Nat} {H : AHeap} {Fr : List Ent}  (a1 : Int) (b1 : Int)   (hI : Kn wm H [] Fr) {r : Int × Bool} (h0 : M.ints_dyads_4 a1 b1 = some r) :
  wpF Try.prog ora wm 115 [.int .i64 a1, .int .i64 b1] H (fun res H => res = .tuple #[.int .i64 r.1, .bool r.2] ∧ Kn wm H [] Fr) := by
 unfold M.ints_dyads_4 at h0
 refine f_enter (n := 12) Try.func115 rfl (by simp) hI rfl rfl rfl fun tm hS => ?_
 clear hI
 refine cr2 hS rfl rfl rfl rfl ?_; clear hS
 intro tm hS
 refine c_reg fun R hR => ?_
 refine pp3 hS rfl rfl rfl rfl rfl rfl ?_; clear hS
 intro tm hS
 obtain ⟨⟨r1, r2⟩, hx1, h0⟩ := bindS h0
 refine o_call hS (.inl rfl) rfl (fun wm' hw1 hw2 => wk114  (decide (a1 ≤ b1))   (hS.sel hw2) hx1) (fun wm' res H hw' hp => ?_)
 obtain ⟨hres, hI⟩ := hp
 replace hres := hres.symm; subst hres
 replace hS : S wm 12 _ H ((9, .tuple #[.int .i64 r1, .bool r2]) :: _) ([] ++ _) Fr := hS.after rfl hw' hI
 clear hI hw'
 refine pp4 hS rfl rfl rfl rfl rfl rfl rfl rfl ?_; clear hS
 intro tm hS
 refine o_nil (hR _ _ ?_)
 clear hR R
 refine wpC.ret ?_
 obtain rfl := Option.some.inj h0
 refine Exists.intro _ (And.intro (rs_tmp hS rfl (rs_tmp hS rfl rs_nil)) ?_)
 have hI := hS.inv
 exact ⟨rfl, (hI.sub sn)⟩
theorem wk116 {wm : Nat} {H : AHeap} {Fr : List Ent}  (a1 : Int) (b1 : Int)   (hI : Kn wm H [] Fr) {r : Int × Bool} (h0 : M.ints_dyads_5 a1 b1 = some r) :
  wpF Try.prog ora wm 116 [.int .i64 a1, .int .i64 b1] H (fun res H => res = .tuple #[.int .i64 r.1, .bool r.2] ∧ Kn wm H [] Fr) := by
 unfold M.ints_dyads_5 at h0
 refine f_enter (n := 12) Try.func116 rfl (by simp) hI rfl rfl rfl fun tm hS => ?_
 clear hI
 refine cr2 hS rfl rfl rfl rfl ?_; clear hS
 intro tm hS
 refine c_reg fun R hR => ?_
 refine pp3 hS rfl rfl rfl rfl rfl rfl ?_; clear hS
 intro tm hS
 obtain ⟨⟨r1, r2⟩, hx1, h0⟩ := bindS h0
 refine o_call hS (.inl rfl) rfl (fun wm' hw1 hw2 => wk114  (a1 == b1)   (hS.sel hw2) hx1) (fun wm' res H hw' hp => ?_)
 obtain ⟨hres, hI⟩ := hp
 replace hres := hres.symm; subst hres
 replace hS : S wm 12 _ H ((9, .tuple #[.int .i64 r1, .bool r2]) :: _) ([] ++ _) Fr := hS.after rfl hw' hI
 clear hI hw'
 refine pp4 hS rfl rfl rfl rfl rfl rfl rfl rfl ?_; clear hS
 intro tm hS
 refine o_nil (hR _ _ ?_)
 clear hR R
 refine wpC.ret ?_
 obtain rfl := Option.some.inj h0
 refine Exists.intro _ (And.intro (rs_tmp hS rfl (rs_tmp hS rfl rs_nil)) ?_)
 have hI := hS.inv
 exact ⟨rfl, (hI.sub sn)⟩
theorem wk117 {wm : Nat} {H : AHeap} {Fr : List Ent}  (a1 : Int) (b1 : Int)   (hI : Kn wm H [] Fr) {r : Int × Bool} (h0 : M.ints_dyads_6 a1 b1 = some r) :
  wpF Try.prog ora wm 117 [.int .i64 a1, .int .i64 b1] H (fun res H => res = .tuple #[.int .i64 r.1, .bool r.2] ∧ Kn wm H [] Fr) := by
 unfold M.ints_dyads_6 at h0
 refine f_enter (n := 12) Try.func117 rfl (by simp) hI rfl rfl rfl fun tm hS => ?_
 clear hI
 refine cr2 hS rfl rfl rfl rfl ?_; clear hS
 intro tm hS
 refine c_reg fun R hR => ?_
 refine pp3 hS rfl rfl rfl rfl rfl rfl ?_; clear hS
 intro tm hS
 obtain ⟨⟨r1, r2⟩, hx1, h0⟩ := bindS h0
 refine o_call hS (.inl rfl) rfl (fun wm' hw1 hw2 => wk114  (decide (a1 ≥ b1))   (hS.sel hw2) hx1) (fun wm' res H hw' hp => ?_)
 obtain ⟨hres, hI⟩ := hp
 replace hres := hres.symm; subst hres
 replace hS : S wm 12 _ H ((9, .tuple #[.int .i64 r1, .bool r2]) :: _) ([] ++ _) Fr := hS.after rfl hw' hI
 clear hI hw'
 refine pp4 hS rfl rfl rfl rfl rfl rfl rfl rfl ?_; clear hS
 intro tm hS
 refine o_nil (hR _ _ ?_)
 clear hR R
 refine wpC.ret ?_
 obtain rfl := Option.some.inj h0
 refine Exists.intro _ (And.intro (rs_tmp hS rfl (rs_tmp hS rfl rs_nil)) ?_)
 have hI := hS.inv
 exact ⟨rfl, (hI.sub sn)⟩
theorem wk118 {wm : Nat} {H : AHeap} {Fr : List Ent}  (a1 : Int) (b1 : Int)   (hI : Kn wm H [] Fr) {r : Int × Bool} (h0 : M.ints_dyads_7 a1 b1 = some r) :
  wpF Try.prog ora wm 118 [.int .i64 a1, .int .i64 b1] H (fun res H => res = .tuple #[.int .i64 r.1, .bool r.2] ∧ Kn wm H [] Fr) := by
 unfold M.ints_dyads_7 at h0
 refine f_enter (n := 12) Try.func118 rfl (by simp) hI rfl rfl rfl fun tm hS => ?_
 clear hI
 refine cr2 hS rfl rfl rfl rfl ?_; clear hS
 intro tm hS
 refine c_reg fun R hR => ?_
 refine pp3 hS rfl rfl rfl rfl rfl rfl ?_; clear hS
 intro tm hS
 obtain ⟨⟨r1, r2⟩, hx1, h0⟩ := bindS h0
 refine o_call hS (.inl rfl) rfl (fun wm' hw1 hw2 => wk114  (decide (a1 > b1))   (hS.sel hw2) hx1) (fun wm' res H hw' hp => ?_)
 obtain ⟨hres, hI⟩ := hp
 replace hres := hres.symm; subst hres
 replace hS : S wm 12 _ H ((9, .tuple #[.int .i64 r1, .bool r2]) :: _) ([] ++ _) Fr := hS.after rfl hw' hI
 clear hI hw'
 refine pp4 hS rfl rfl rfl rfl rfl rfl rfl rfl ?_; clear hS
 intro tm hS
 refine o_nil (hR _ _ ?_)
 clear hR R
 refine wpC.ret ?_
 obtain rfl := Option.some.inj h0
 refine Exists.intro _ (And.intro (rs_tmp hS rfl (rs_tmp hS rfl rs_nil)) ?_)
 have hI := hS.inv
 exact ⟨rfl, (hI.sub sn)⟩
theorem wk119 {wm : Nat} {H : AHeap} {Fr : List Ent}  (a1 : Int) (b1 : Int)   (hI : Kn wm H [] Fr) {r : Int × Bool} (h0 : M.ints_dyads_8 a1 b1 = some r) :
  wpF Try.prog ora wm 119 [.int .i64 a1, .int .i64 b1] H (fun res H => res = .tuple #[.int .i64 r.1, .bool r.2] ∧ Kn wm H [] Fr) := by
 unfold M.ints_dyads_8 at h0
 refine f_enter (n := 12) Try.func119 rfl (by simp) hI rfl rfl rfl fun tm hS => ?_
 clear hI
 refine cr2 hS rfl rfl rfl rfl ?_; clear hS
 intro tm hS
 refine c_reg fun R hR => ?_
 refine pp3 hS rfl rfl rfl rfl rfl rfl ?_; clear hS
 intro tm hS
 obtain ⟨⟨r1, r2⟩, hx1, h0⟩ := bindS h0
 refine o_call hS (.inl rfl) rfl (fun wm' hw1 hw2 => wk114  (a1 != b1)   (hS.sel hw2) hx1) (fun wm' res H hw' hp => ?_)
 obtain ⟨hres, hI⟩ := hp
 replace hres := hres.symm; subst hres
 replace hS : S wm 12 _ H ((9, .tuple #[.int .i64 r1, .bool r2]) :: _) ([] ++ _) Fr := hS.after rfl hw' hI
 clear hI hw'
 refine pp4 hS rfl rfl rfl rfl rfl rfl rfl rfl ?_; clear hS
 intro tm hS
 refine o_nil (hR _ _ ?_)
 clear hR R
 refine wpC.ret ?_
 obtain rfl := Option.some.inj h0
 refine Exists.intro _ (And.intro (rs_tmp hS rfl (rs_tmp hS rfl rs_nil)) ?_)
 have hI := hS.inv
 exact ⟨rfl, (hI.sub sn)⟩
theorem wk121 {wm : Nat} {H : AHeap} {Fr : List Ent}  (b1 : Int)   (hI : Kn wm H [] Fr) {r : Bool} (h0 : M.ints_bit b1 = some r) :
  wpF Try.prog ora wm 121 [.int .i64 b1] H (fun res H => res = .bool r ∧ Kn wm H [] Fr) := by
 unfold M.ints_bit at h0
 refine f_enter (n := 9) Try.func121 rfl (by simp) hI rfl rfl rfl fun tm hS => ?_
 clear hI
 refine cr1 hS rfl rfl ?_; clear hS
 intro tm hS
 refine c_reg fun R hR => ?_
 refine pp3 hS rfl rfl rfl rfl rfl rfl ?_; clear hS
 intro tm hS
 obtain ⟨c1, hc1⟩ : ∃ x : Bool, x = ((b1 == 0) || (b1 == 1)) := ⟨_, rfl⟩
 refine o_cutN 3 (J := fun tm H => S wm 9 tm H [(8, .bool c1)] [] Fr) ?_ ?_
 ·rcases Bool.eq_false_or_eq_true (b1 == 0) with hg1 | hg1
  ·refine o_skip hS rfl rfl rfl hg1 ?_; clear hS
   intro tm hS
   refine o_skip hS rfl rfl rfl hg1 ?_; clear hS
   intro tm hS
   refine o_pickT hS (.inl rfl) rfl rfl hg1 rfl ?_; clear hS
   intro tm hS
   have hc1 : c1 = true := hc1.trans (by rw [hg1]; first | rfl | simp)
   subst hc1
   exact o_nil (hS.keep (ka_cons rfl ka_nil) (fun hI => (hI.sub sn)))
  ·refine o_pure hS (.inr ⟨_, _, _, _, rfl, rfl, rfl, hg1⟩) rfl rfl ?_; clear hS
   intro tm hS
   refine o_pure hS (.inr ⟨_, _, _, _, rfl, rfl, rfl, hg1⟩) rfl rfl ?_; clear hS
   intro tm hS
   refine o_pickF hS (.inl rfl) rfl rfl hg1 rfl ?_; clear hS
   intro tm hS
   have hc1 : c1 = (b1 == 1) := hc1.trans (by rw [hg1]; first | rfl | simp)
   subst hc1
   exact o_nil (hS.keep (ka_cons rfl ka_nil) (fun hI => (hI.sub sn)))
 intro tm H hS
 subst hc1
 refine pp1 hS rfl rfl ?_; clear hS
 intro tm hS
 refine o_nil (hR _ _ ?_)
 clear hR R
 refine wpC.ret ?_
 obtain rfl := Option.some.inj h0
 refine Exists.intro _ (And.intro (rs_tmp hS rfl rs_nil) ?_)
 have hI := hS.inv
 exact ⟨rfl, (hI.sub sn)⟩
theorem wk120 {wm : Nat} {H : AHeap} {Fr : List Ent}  (a1 : Int) (b1 : Int)   (hI : Kn wm H [] Fr) {r : Int × Bool} (h0 : M.ints_dyads_9 a1 b1 = some r) :
  wpF Try.prog ora wm 120 [.int .i64 a1, .int .i64 b1] H (fun res H => res = .tuple #[.int .i64 r.1, .bool r.2] ∧ Kn wm H [] Fr) := by
 unfold M.ints_dyads_9 at h0
 refine f_enter (n := 15) Try.func120 rfl (by simp) hI rfl rfl rfl fun tm hS => ?_
 clear hI
 refine cr2 hS rfl rfl rfl rfl ?_; clear hS
 intro tm hS
 refine c_reg fun R hR => ?_
 refine pp4 hS rfl rfl rfl rfl rfl rfl rfl rfl ?_; clear hS
 intro tm hS
 obtain ⟨r1, hx1, h0⟩ := bindS h0
 refine o_call hS (.inl rfl) rfl (fun wm' hw1 hw2 => wk121  a1   (hS.sel hw2) hx1) (fun wm' res H hw' hp => ?_)
 obtain ⟨hres, hI⟩ := hp
 replace hres := hres.symm; subst hres
 replace hS : S wm 15 _ H ((10, .bool r1) :: _) ([] ++ _) Fr := hS.after rfl hw' hI
 clear hI hw'
 refine pp1 hS rfl rfl ?_; clear hS
 intro tm hS
 obtain ⟨c1, hc1, h0⟩ := bindS h0
 refine o_cutN 3 (J := fun tm H => S wm 15 tm H [(14, .bool c1), (8, .int .i64 (IntKind.i64.wrap (BitVec.ofInt IntKind.i64.bits a1 &&& BitVec.ofInt IntKind.i64.bits b1).toNat))] [] Fr) ?_ ?_
 ·rcases Bool.eq_false_or_eq_true r1 with hg1 | hg1
  ·replace hc1 := iteT hg1 hc1
   refine o_pure hS (.inr ⟨_, _, _, _, rfl, rfl, rfl, hg1⟩) rfl rfl ?_; clear hS
   intro tm hS
   obtain ⟨r2, hx2, hc1⟩ := bindS hc1
   refine o_call hS (.inr ⟨_, _, _, _, rfl, rfl, rfl, hg1⟩) rfl (fun wm' hw1 hw2 => wk121  b1   (hS.sel hw2) hx2) (fun wm' res H hw' hp => ?_)
   obtain ⟨hres, hI⟩ := hp
   replace hres := hres.symm; subst hres
   replace hS : S wm 15 _ H ((13, .bool r2) :: _) ([] ++ _) Fr := hS.after rfl hw' hI
   clear hI hw'
   refine o_pickT hS (.inl rfl) rfl rfl hg1 rfl ?_; clear hS
   intro tm hS
   obtain rfl := Option.some.inj hc1
   exact o_nil (hS.keep (k2 rfl rfl) (fun hI => (hI.sub sn)))
  ·replace hc1 := iteF hg1 hc1
   refine o_skip hS rfl rfl rfl hg1 ?_; clear hS
   intro tm hS
   refine o_skip hS rfl rfl rfl hg1 ?_; clear hS
   intro tm hS
   refine o_pickF hS (.inl rfl) rfl rfl hg1 rfl ?_; clear hS
   intro tm hS
   obtain rfl := Option.some.inj hc1
   exact o_nil (hS.keep (k2 rfl rfl) (fun hI => (hI.sub sn)))
 intro tm H hS
 refine pp2 hS rfl rfl rfl rfl ?_; clear hS
 intro tm hS
 refine o_nil (hR _ _ ?_)
 clear hR R
 refine wpC.ret ?_
 obtain rfl := Option.some.inj h0
 refine Exists.intro _ (And.intro (rs_tmp hS rfl (rs_tmp hS rfl rs_nil)) ?_)
 have hI := hS.inv
 exact ⟨rfl, (hI.sub sn)⟩
theorem wk122 {wm : Nat} {H : AHeap} {Fr : List Ent}  (a1 : Int) (b1 : Int)   (hI : Kn wm H [] Fr) {r : Int × Bool} (h0 : M.ints_dyads_10 a1 b1 = some r) :
  wpF Try.prog ora wm 122 [.int .i64 a1, .int .i64 b1] H (fun res H => res = .tuple #[.int .i64 r.1, .bool r.2] ∧ Kn wm H [] Fr) := by
 unfold M.ints_dyads_10 at h0
 refine f_enter (n := 15) Try.func122 rfl (by simp) hI rfl rfl rfl fun tm hS => ?_
 clear hI
 refine cr2 hS rfl rfl rfl rfl ?_; clear hS
 intro tm hS
 refine c_reg fun R hR => ?_
 refine pp4 hS rfl rfl rfl rfl rfl rfl rfl rfl ?_; clear hS
 intro tm hS
 obtain ⟨r1, hx1, h0⟩ := bindS h0
 refine o_call hS (.inl rfl) rfl (fun wm' hw1 hw2 => wk121  a1   (hS.sel hw2) hx1) (fun wm' res H hw' hp => ?_)
 obtain ⟨hres, hI⟩ := hp
 replace hres := hres.symm; subst hres
 replace hS : S wm 15 _ H ((10, .bool r1) :: _) ([] ++ _) Fr := hS.after rfl hw' hI
 clear hI hw'
 refine pp1 hS rfl rfl ?_; clear hS
 intro tm hS
 obtain ⟨c1, hc1, h0⟩ := bindS h0
 refine o_cutN 3 (J := fun tm H => S wm 15 tm H [(14, .bool c1), (8, .int .i64 (IntKind.i64.wrap (BitVec.ofInt IntKind.i64.bits a1 ||| BitVec.ofInt IntKind.i64.bits b1).toNat))] [] Fr) ?_ ?_
 ·rcases Bool.eq_false_or_eq_true r1 with hg1 | hg1
  ·replace hc1 := iteT hg1 hc1
   refine o_pure hS (.inr ⟨_, _, _, _, rfl, rfl, rfl, hg1⟩) rfl rfl ?_; clear hS
   intro tm hS
   obtain ⟨r2, hx2, hc1⟩ := bindS hc1
   refine o_call hS (.inr ⟨_, _, _, _, rfl, rfl, rfl, hg1⟩) rfl (fun wm' hw1 hw2 => wk121  b1   (hS.sel hw2) hx2) (fun wm' res H hw' hp => ?_)
   obtain ⟨hres, hI⟩ := hp
   replace hres := hres.symm; subst hres
   replace hS : S wm 15 _ H ((13, .bool r2) :: _) ([] ++ _) Fr := hS.after rfl hw' hI
   clear hI hw'
   refine o_pickT hS (.inl rfl) rfl rfl hg1 rfl ?_; clear hS
   intro tm hS
   obtain rfl := Option.some.inj hc1
   exact o_nil (hS.keep (k2 rfl rfl) (fun hI => (hI.sub sn)))
  ·replace hc1 := iteF hg1 hc1
   refine o_skip hS rfl rfl rfl hg1 ?_; clear hS
   intro tm hS
   refine o_skip hS rfl rfl rfl hg1 ?_; clear hS
   intro tm hS
   refine o_pickF hS (.inl rfl) rfl rfl hg1 rfl ?_; clear hS
   intro tm hS
   obtain rfl := Option.some.inj hc1
   exact o_nil (hS.keep (k2 rfl rfl) (fun hI => (hI.sub sn)))
 intro tm H hS
 refine pp2 hS rfl rfl rfl rfl ?_; clear hS
 intro tm hS
 refine o_nil (hR _ _ ?_)
 clear hR R
 refine wpC.ret ?_
 obtain rfl := Option.some.inj h0
 refine Exists.intro _ (And.intro (rs_tmp hS rfl (rs_tmp hS rfl rs_nil)) ?_)
 have hI := hS.inv
 exact ⟨rfl, (hI.sub sn)⟩
theorem wk123 {wm : Nat} {H : AHeap} {Fr : List Ent}  (a1 : Int) (b1 : Int)   (hI : Kn wm H [] Fr) {r : Int × Bool} (h0 : M.ints_dyads_11 a1 b1 = some r) :
  wpF Try.prog ora wm 123 [.int .i64 a1, .int .i64 b1] H (fun res H => res = .tuple #[.int .i64 r.1, .bool r.2] ∧ Kn wm H [] Fr) := by
 unfold M.ints_dyads_11 at h0
 refine f_enter (n := 16) Try.func123 rfl (by simp) hI rfl rfl rfl fun tm hS => ?_
 clear hI
 refine cr2 hS rfl rfl rfl rfl ?_; clear hS
 intro tm hS
 refine c_reg fun R hR => ?_
 refine pp5 hS rfl rfl rfl rfl rfl rfl rfl rfl rfl rfl ?_; clear hS
 intro tm hS
 obtain ⟨r1, hx1, h0⟩ := bindS h0
 refine o_call hS (.inl rfl) rfl (fun wm' hw1 hw2 => wk121  a1   (hS.sel hw2) hx1) (fun wm' res H hw' hp => ?_)
 obtain ⟨hres, hI⟩ := hp
 replace hres := hres.symm; subst hres
 replace hS : S wm 16 _ H ((11, .bool r1) :: _) ([] ++ _) Fr := hS.after rfl hw' hI
 clear hI hw'
 refine pp1 hS rfl rfl ?_; clear hS
 intro tm hS
 obtain ⟨c1, hc1, h0⟩ := bindS h0
 refine o_cutN 3 (J := fun tm H => S wm 16 tm H [(15, .bool c1), (9, .int .i64 (IntKind.i64.wrap (1 - (IntKind.i64.wrap (BitVec.ofInt IntKind.i64.bits a1 &&& BitVec.ofInt IntKind.i64.bits b1).toNat))))] [] Fr) ?_ ?_
 ·rcases Bool.eq_false_or_eq_true r1 with hg1 | hg1
  ·replace hc1 := iteT hg1 hc1
   refine o_pure hS (.inr ⟨_, _, _, _, rfl, rfl, rfl, hg1⟩) rfl rfl ?_; clear hS
   intro tm hS
   obtain ⟨r2, hx2, hc1⟩ := bindS hc1
   refine o_call hS (.inr ⟨_, _, _, _, rfl, rfl, rfl, hg1⟩) rfl (fun wm' hw1 hw2 => wk121  b1   (hS.sel hw2) hx2) (fun wm' res H hw' hp => ?_)
   obtain ⟨hres, hI⟩ := hp
   replace hres := hres.symm; subst hres
   replace hS : S wm 16 _ H ((14, .bool r2) :: _) ([] ++ _) Fr := hS.after rfl hw' hI
   clear hI hw'
   refine o_pickT hS (.inl rfl) rfl rfl hg1 rfl ?_; clear hS
   intro tm hS
   obtain rfl := Option.some.inj hc1
   exact o_nil (hS.keep (k2 rfl rfl) (fun hI => (hI.sub sn)))
  ·replace hc1 := iteF hg1 hc1
   refine o_skip hS rfl rfl rfl hg1 ?_; clear hS
   intro tm hS
   refine o_skip hS rfl rfl rfl hg1 ?_; clear hS
   intro tm hS
   refine o_pickF hS (.inl rfl) rfl rfl hg1 rfl ?_; clear hS
   intro tm hS
   obtain rfl := Option.some.inj hc1
   exact o_nil (hS.keep (k2 rfl rfl) (fun hI => (hI.sub sn)))
 intro tm H hS
 refine pp2 hS rfl rfl rfl rfl ?_; clear hS
 intro tm hS
 refine o_nil (hR _ _ ?_)
 clear hR R
 refine wpC.ret ?_
 obtain rfl := Option.some.inj h0
 refine Exists.intro _ (And.intro (rs_tmp hS rfl (rs_tmp hS rfl rs_nil)) ?_)
 have hI := hS.inv
 exact ⟨rfl, (hI.sub sn)⟩
theorem wk124 {wm : Nat} {H : AHeap} {Fr : List Ent}  (a1 : Int) (b1 : Int)   (hI : Kn wm H [] Fr) {r : Int × Bool} (h0 : M.ints_dyads_12 a1 b1 = some r) :
  wpF Try.prog ora wm 124 [.int .i64 a1, .int .i64 b1] H (fun res H => res = .tuple #[.int .i64 r.1, .bool r.2] ∧ Kn wm H [] Fr) := by
 unfold M.ints_dyads_12 at h0
 refine f_enter (n := 16) Try.func124 rfl (by simp) hI rfl rfl rfl fun tm hS => ?_
 clear hI
 refine cr2 hS rfl rfl rfl rfl ?_; clear hS
 intro tm hS
 refine c_reg fun R hR => ?_
 refine pp5 hS rfl rfl rfl rfl rfl rfl rfl rfl rfl rfl ?_; clear hS
 intro tm hS
 obtain ⟨r1, hx1, h0⟩ := bindS h0
 refine o_call hS (.inl rfl) rfl (fun wm' hw1 hw2 => wk121  a1   (hS.sel hw2) hx1) (fun wm' res H hw' hp => ?_)
 obtain ⟨hres, hI⟩ := hp
 replace hres := hres.symm; subst hres
 replace hS : S wm 16 _ H ((11, .bool r1) :: _) ([] ++ _) Fr := hS.after rfl hw' hI
 clear hI hw'
 refine pp1 hS rfl rfl ?_; clear hS
 intro tm hS
 obtain ⟨c1, hc1, h0⟩ := bindS h0
 refine o_cutN 3 (J := fun tm H => S wm 16 tm H [(15, .bool c1), (9, .int .i64 (IntKind.i64.wrap (1 - (IntKind.i64.wrap (BitVec.ofInt IntKind.i64.bits a1 ||| BitVec.ofInt IntKind.i64.bits b1).toNat))))] [] Fr) ?_ ?_
 ·rcases Bool.eq_false_or_eq_true r1 with hg1 | hg1
  ·replace hc1 := iteT hg1 hc1
   refine o_pure hS (.inr ⟨_, _, _, _, rfl, rfl, rfl, hg1⟩) rfl rfl ?_; clear hS
   intro tm hS
   obtain ⟨r2, hx2, hc1⟩ := bindS hc1
   refine o_call hS (.inr ⟨_, _, _, _, rfl, rfl, rfl, hg1⟩) rfl (fun wm' hw1 hw2 => wk121  b1   (hS.sel hw2) hx2) (fun wm' res H hw' hp => ?_)
   obtain ⟨hres, hI⟩ := hp
   replace hres := hres.symm; subst hres
   replace hS : S wm 16 _ H ((14, .bool r2) :: _) ([] ++ _) Fr := hS.after rfl hw' hI
   clear hI hw'
   refine o_pickT hS (.inl rfl) rfl rfl hg1 rfl ?_; clear hS
   intro tm hS
   obtain rfl := Option.some.inj hc1
   exact o_nil (hS.keep (k2 rfl rfl) (fun hI => (hI.sub sn)))
  ·replace hc1 := iteF hg1 hc1
   refine o_skip hS rfl rfl rfl hg1 ?_; clear hS
   intro tm hS
   refine o_skip hS rfl rfl rfl hg1 ?_; clear hS
   intro tm hS
   refine o_pickF hS (.inl rfl) rfl rfl hg1 rfl ?_; clear hS
   intro tm hS
   obtain rfl := Option.some.inj hc1
   exact o_nil (hS.keep (k2 rfl rfl) (fun hI => (hI.sub sn)))
 intro tm H hS
 refine pp2 hS rfl rfl rfl rfl ?_; clear hS
 intro tm hS
 refine o_nil (hR _ _ ?_)
 clear hR R
 refine wpC.ret ?_
 obtain rfl := Option.some.inj h0
 refine Exists.intro _ (And.intro (rs_tmp hS rfl (rs_tmp hS rfl rs_nil)) ?_)
 have hI := hS.inv
 exact ⟨rfl, (hI.sub sn)⟩
theorem wk84 {wm : Nat} {H : AHeap} {Fr : List Ent} (ho100 : ora 100 = false) (fn1 : ByteArray) (a1 : Int) (b1 : Int)   (hI : Kn wm H [] Fr) {r : Int × Int} (h0 : M.ints_Dyad fn1 a1 b1 = some r) :
  wpF Try.prog ora wm 84 [.string fn1, .int .i64 a1, .int .i64 b1] H (fun res H => res = .tuple #[.int .i64 r.1, .int .i64 r.2] ∧ Kn wm H [] Fr) := by
 unfold M.ints_Dyad at h0
 refine f_enter (n := 27) Try.func84 rfl (by simp) hI rfl rfl rfl fun tm hS => ?_
 clear hI
 refine cr2 hS rfl rfl rfl rfl ?_; clear hS
 intro tm hS
 refine c_reg fun R hR => ?_
 obtain ⟨r1, hx1, h0⟩ := bindS h0
 refine o_call hS (.inl rfl) rfl (fun wm' hw1 hw2 => wk100 ho100    (hS.sel hw2) hx1) (fun wm' res H hw' hp => ?_)
 obtain ⟨b2, hres, hI⟩ := hp
 replace hres := hres.symm; subst hres
 replace hS : S wm 27 _ H ((11, .map (some b2)) :: _) ([.raw b2 (.amap (mapE [(str_43, 104), (str_45, 105), (str_195_151, 106), (str_195_183, 107), (str_42, 108), (str_124, 109), (str_33, 110), (str_226_140_136, 111), (str_226_140_138, 112), (str_60, 113), (str_226_137_164, 115), (str_61, 116), (str_226_137_165, 117), (str_62, 118), (str_226_137_160, 119), (str_226_136_167, 120), (str_226_136_168, 122), (str_226_141_178, 123), (str_226_141_177, 124)]))] ++ _) Fr := hS.after rfl hw' hI
 clear hI hw'
 refine pp1 hS rfl rfl ?_; clear hS
 intro tm hS
 refine o_lookup (k := 0) hS (.inl rfl) rfl rfl rfl rfl Fu141 Fu9 (by kernel_rfl) ?_; clear hS
 intro tm hS
 rcases Bool.eq_false_or_eq_true (fn1 == str_43) with hk | hk
 ·rw [lookT_yes hk] at hS
  replace h0 := iteT hk h0
  clear hk
  refine pp5 hS rfl rfl rfl rfl rfl rfl rfl rfl rfl rfl ?_; clear hS
  intro tm hS
  refine o_nil (hR _ _ ?_)
  clear hR R
  refine c_seqS ?_
  refine cr2 hS rfl rfl rfl rfl ?_; clear hS
  intro tm hS
  refine c_cond hS rfl (fun h => by cases h) (fun _ => ?_)
  refine wpC.skip ?_
  refine c_reg fun R hR => ?_
  refine pp3 hS rfl rfl rfl rfl rfl rfl ?_; clear hS
  intro tm hS
  obtain ⟨⟨r2, r3⟩, hx2, h0⟩ := bindS h0
  refine o_call hS (.inl rfl) rfl (fun wm' hw1 hw2 => wk104  a1 b1   (hS.sel hw2) hx2) (fun wm' res H hw' hp => ?_)
  obtain ⟨hres, hI⟩ := hp
  replace hres := hres.symm; subst hres
  replace hS : S wm 27 _ H ((21, .tuple #[.int .i64 r2, .bool r3]) :: _) ([] ++ _) Fr := hS.after rfl hw' hI
  clear hI hw'
  refine pp2 hS rfl rfl rfl rfl ?_; clear hS
  intro tm hS
  obtain ⟨⟨r4, r5⟩, hx3, h0⟩ := bindS h0
  refine o_call hS (.inl rfl) rfl (fun wm' hw1 hw2 => wk101  r2 r3   (hS.sel hw2) hx3) (fun wm' res H hw' hp => ?_)
  obtain ⟨hres, hI⟩ := hp
  replace hres := hres.symm; subst hres
  replace hS : S wm 27 _ H ((24, .tuple #[.int .i64 r4, .int .i64 r5]) :: _) ([] ++ _) Fr := hS.after rfl hw' hI
  clear hI hw'
  refine pp4 hS rfl rfl rfl rfl rfl rfl rfl rfl ?_; clear hS
  intro tm hS
  refine o_nil (hR _ _ ?_)
  clear hR R
  refine wpC.ret ?_
  obtain rfl := Option.some.inj h0
  refine Exists.intro _ (And.intro (rs_tmp hS rfl (rs_tmp hS rfl rs_nil)) ?_)
  have hI := hS.inv
  exact ⟨rfl, (hI.sub sn)⟩
 rw [lookT_no hk] at hS
 replace h0 := iteF hk h0
 clear hk
 rcases Bool.eq_false_or_eq_true (fn1 == str_45) with hk | hk
 ·rw [lookT_yes hk] at hS
  replace h0 := iteT hk h0
  clear hk
  refine pp5 hS rfl rfl rfl rfl rfl rfl rfl rfl rfl rfl ?_; clear hS
  intro tm hS
  refine o_nil (hR _ _ ?_)
  clear hR R
  refine c_seqS ?_
  refine cr2 hS rfl rfl rfl rfl ?_; clear hS
  intro tm hS
  refine c_cond hS rfl (fun h => by cases h) (fun _ => ?_)
  refine wpC.skip ?_
  refine c_reg fun R hR => ?_
  refine pp3 hS rfl rfl rfl rfl rfl rfl ?_; clear hS
  intro tm hS
  obtain ⟨⟨r6, r7⟩, hx4, h0⟩ := bindS h0
  refine o_call hS (.inl rfl) rfl (fun wm' hw1 hw2 => wk105  a1 b1   (hS.sel hw2) hx4) (fun wm' res H hw' hp => ?_)
  obtain ⟨hres, hI⟩ := hp
  replace hres := hres.symm; subst hres
  replace hS : S wm 27 _ H ((21, .tuple #[.int .i64 r6, .bool r7]) :: _) ([] ++ _) Fr := hS.after rfl hw' hI
  clear hI hw'
  refine pp2 hS rfl rfl rfl rfl ?_; clear hS
  intro tm hS
  obtain ⟨⟨r8, r9⟩, hx5, h0⟩ := bindS h0
  refine o_call hS (.inl rfl) rfl (fun wm' hw1 hw2 => wk101  r6 r7   (hS.sel hw2) hx5) (fun wm' res H hw' hp => ?_)
  obtain ⟨hres, hI⟩ := hp
  replace hres := hres.symm; subst hres
  replace hS : S wm 27 _ H ((24, .tuple #[.int .i64 r8, .int .i64 r9]) :: _) ([] ++ _) Fr := hS.after rfl hw' hI
  clear hI hw'
  refine pp4 hS rfl rfl rfl rfl rfl rfl rfl rfl ?_; clear hS
  intro tm hS
  refine o_nil (hR _ _ ?_)
  clear hR R
  refine wpC.ret ?_
  obtain rfl := Option.some.inj h0
  refine Exists.intro _ (And.intro (rs_tmp hS rfl (rs_tmp hS rfl rs_nil)) ?_)
  have hI := hS.inv
  exact ⟨rfl, (hI.sub sn)⟩
 rw [lookT_no hk] at hS
 replace h0 := iteF hk h0
 clear hk
 rcases Bool.eq_false_or_eq_true (fn1 == str_195_151) with hk | hk
 ·rw [lookT_yes hk] at hS
  replace h0 := iteT hk h0
  clear hk
  refine pp5 hS rfl rfl rfl rfl rfl rfl rfl rfl rfl rfl ?_; clear hS
  intro tm hS
  refine o_nil (hR _ _ ?_)
  clear hR R
  refine c_seqS ?_
  refine cr2 hS rfl rfl rfl rfl ?_; clear hS
  intro tm hS
  refine c_cond hS rfl (fun h => by cases h) (fun _ => ?_)
  refine wpC.skip ?_
  refine c_reg fun R hR => ?_
  refine pp3 hS rfl rfl rfl rfl rfl rfl ?_; clear hS
  intro tm hS
  obtain ⟨⟨r10, r11⟩, hx6, h0⟩ := bindS h0
  refine o_call hS (.inl rfl) rfl (fun wm' hw1 hw2 => wk106  a1 b1   (hS.sel hw2) hx6) (fun wm' res H hw' hp => ?_)
  obtain ⟨hres, hI⟩ := hp
  replace hres := hres.symm; subst hres
  replace hS : S wm 27 _ H ((21, .tuple #[.int .i64 r10, .bool r11]) :: _) ([] ++ _) Fr := hS.after rfl hw' hI
  clear hI hw'
  refine pp2 hS rfl rfl rfl rfl ?_; clear hS
  intro tm hS
  obtain ⟨⟨r12, r13⟩, hx7, h0⟩ := bindS h0
  refine o_call hS (.inl rfl) rfl (fun wm' hw1 hw2 => wk101  r10 r11   (hS.sel hw2) hx7) (fun wm' res H hw' hp => ?_)
  obtain ⟨hres, hI⟩ := hp
  replace hres := hres.symm; subst hres
  replace hS : S wm 27 _ H ((24, .tuple #[.int .i64 r12, .int .i64 r13]) :: _) ([] ++ _) Fr := hS.after rfl hw' hI
  clear hI hw'
  refine pp4 hS rfl rfl rfl rfl rfl rfl rfl rfl ?_; clear hS
  intro tm hS
  refine o_nil (hR _ _ ?_)
  clear hR R
  refine wpC.ret ?_
  obtain rfl := Option.some.inj h0
  refine Exists.intro _ (And.intro (rs_tmp hS rfl (rs_tmp hS rfl rs_nil)) ?_)
  have hI := hS.inv
  exact ⟨rfl, (hI.sub sn)⟩
 rw [lookT_no hk] at hS
 replace h0 := iteF hk h0
 clear hk
 rcases Bool.eq_false_or_eq_true (fn1 == str_195_183) with hk | hk
 ·rw [lookT_yes hk] at hS
  replace h0 := iteT hk h0
  clear hk
  refine pp5 hS rfl rfl rfl rfl rfl rfl rfl rfl rfl rfl ?_; clear hS
  intro tm hS
  refine o_nil (hR _ _ ?_)
  clear hR R
  refine c_seqS ?_
  refine cr2 hS rfl rfl rfl rfl ?_; clear hS
  intro tm hS
  refine c_cond hS rfl (fun h => by cases h) (fun _ => ?_)
  refine wpC.skip ?_
  refine c_reg fun R hR => ?_
  refine pp3 hS rfl rfl rfl rfl rfl rfl ?_; clear hS
  intro tm hS
  obtain ⟨⟨r14, r15⟩, hx8, h0⟩ := bindS h0
  refine o_call hS (.inl rfl) rfl (fun wm' hw1 hw2 => wk107  a1 b1   (hS.sel hw2) hx8) (fun wm' res H hw' hp => ?_)
  obtain ⟨hres, hI⟩ := hp
  replace hres := hres.symm; subst hres
  replace hS : S wm 27 _ H ((21, .tuple #[.int .i64 r14, .bool r15]) :: _) ([] ++ _) Fr := hS.after rfl hw' hI
  clear hI hw'
  refine pp2 hS rfl rfl rfl rfl ?_; clear hS
  intro tm hS
  obtain ⟨⟨r16, r17⟩, hx9, h0⟩ := bindS h0
  refine o_call hS (.inl rfl) rfl (fun wm' hw1 hw2 => wk101  r14 r15   (hS.sel hw2) hx9) (fun wm' res H hw' hp => ?_)
  obtain ⟨hres, hI⟩ := hp
  replace hres := hres.symm; subst hres
  replace hS : S wm 27 _ H ((24, .tuple #[.int .i64 r16, .int .i64 r17]) :: _) ([] ++ _) Fr := hS.after rfl hw' hI
  clear hI hw'
  refine pp4 hS rfl rfl rfl rfl rfl rfl rfl rfl ?_; clear hS
  intro tm hS
  refine o_nil (hR _ _ ?_)
  clear hR R
  refine wpC.ret ?_
  obtain rfl := Option.some.inj h0
  refine Exists.intro _ (And.intro (rs_tmp hS rfl (rs_tmp hS rfl rs_nil)) ?_)
  have hI := hS.inv
  exact ⟨rfl, (hI.sub sn)⟩
 rw [lookT_no hk] at hS
 replace h0 := iteF hk h0
 clear hk
 rcases Bool.eq_false_or_eq_true (fn1 == str_42) with hk | hk
 ·rw [lookT_yes hk] at hS
  replace h0 := iteT hk h0
  clear hk
  refine pp5 hS rfl rfl rfl rfl rfl rfl rfl rfl rfl rfl ?_; clear hS
  intro tm hS
  refine o_nil (hR _ _ ?_)
  clear hR R
  refine c_seqS ?_
  refine cr2 hS rfl rfl rfl rfl ?_; clear hS
  intro tm hS
  refine c_cond hS rfl (fun h => by cases h) (fun _ => ?_)
  refine wpC.skip ?_
  refine c_reg fun R hR => ?_
  refine pp3 hS rfl rfl rfl rfl rfl rfl ?_; clear hS
  intro tm hS
  obtain ⟨⟨r18, r19⟩, hx10, h0⟩ := bindS h0
  refine o_call hS (.inl rfl) rfl (fun wm' hw1 hw2 => wk108  a1 b1   (hS.sel hw2) hx10) (fun wm' res H hw' hp => ?_)
  obtain ⟨hres, hI⟩ := hp
  replace hres := hres.symm; subst hres
  replace hS : S wm 27 _ H ((21, .tuple #[.int .i64 r18, .bool r19]) :: _) ([] ++ _) Fr := hS.after rfl hw' hI
  clear hI hw'
  refine pp2 hS rfl rfl rfl rfl ?_; clear hS
  intro tm hS
  obtain ⟨⟨r20, r21⟩, hx11, h0⟩ := bindS h0
  refine o_call hS (.inl rfl) rfl (fun wm' hw1 hw2 => wk101  r18 r19   (hS.sel hw2) hx11) (fun wm' res H hw' hp => ?_)
  obtain ⟨hres, hI⟩ := hp
  replace hres := hres.symm; subst hres
  replace hS : S wm 27 _ H ((24, .tuple #[.int .i64 r20, .int .i64 r21]) :: _) ([] ++ _) Fr := hS.after rfl hw' hI
  clear hI hw'
  refine pp4 hS rfl rfl rfl rfl rfl rfl rfl rfl ?_; clear hS
  intro tm hS
  refine o_nil (hR _ _ ?_)
  clear hR R
  refine wpC.ret ?_
  obtain rfl := Option.some.inj h0
  refine Exists.intro _ (And.intro (rs_tmp hS rfl (rs_tmp hS rfl rs_nil)) ?_)
  have hI := hS.inv
  exact ⟨rfl, (hI.sub sn)⟩
 rw [lookT_no hk] at hS
 replace h0 := iteF hk h0
 clear hk
 rcases Bool.eq_false_or_eq_true (fn1 == str_124) with hk | hk
 ·rw [lookT_yes hk] at hS
  replace h0 := iteT hk h0
  clear hk
  refine pp5 hS rfl rfl rfl rfl rfl rfl rfl rfl rfl rfl ?_; clear hS
  intro tm hS
  refine o_nil (hR _ _ ?_)
  clear hR R
  refine c_seqS ?_
  refine cr2 hS rfl rfl rfl rfl ?_; clear hS
  intro tm hS
  refine c_cond hS rfl (fun h => by cases h) (fun _ => ?_)
  refine wpC.skip ?_
  refine c_reg fun R hR => ?_
  refine pp3 hS rfl rfl rfl rfl rfl rfl ?_; clear hS
  intro tm hS
  obtain ⟨⟨r22, r23⟩, hx12, h0⟩ := bindS h0
  refine o_call hS (.inl rfl) rfl (fun wm' hw1 hw2 => wk109  a1 b1   (hS.sel hw2) hx12) (fun wm' res H hw' hp => ?_)
  obtain ⟨hres, hI⟩ := hp
  replace hres := hres.symm; subst hres
  replace hS : S wm 27 _ H ((21, .tuple #[.int .i64 r22, .bool r23]) :: _) ([] ++ _) Fr := hS.after rfl hw' hI
  clear hI hw'
  refine pp2 hS rfl rfl rfl rfl ?_; clear hS
  intro tm hS
  obtain ⟨⟨r24, r25⟩, hx13, h0⟩ := bindS h0
  refine o_call hS (.inl rfl) rfl (fun wm' hw1 hw2 => wk101  r22 r23   (hS.sel hw2) hx13) (fun wm' res H hw' hp => ?_)
  obtain ⟨hres, hI⟩ := hp
  replace hres := hres.symm; subst hres
  replace hS : S wm 27 _ H ((24, .tuple #[.int .i64 r24, .int .i64 r25]) :: _) ([] ++ _) Fr := hS.after rfl hw' hI
  clear hI hw'
  refine pp4 hS rfl rfl rfl rfl rfl rfl rfl rfl ?_; clear hS
  intro tm hS
  refine o_nil (hR _ _ ?_)
  clear hR R
  refine wpC.ret ?_
  obtain rfl := Option.some.inj h0
  refine Exists.intro _ (And.intro (rs_tmp hS rfl (rs_tmp hS rfl rs_nil)) ?_)
  have hI := hS.inv
  exact ⟨rfl, (hI.sub sn)⟩
 rw [lookT_no hk] at hS
 replace h0 := iteF hk h0
 clear hk
 rcases Bool.eq_false_or_eq_true (fn1 == str_33) with hk | hk
 ·rw [lookT_yes hk] at hS
  replace h0 := iteT hk h0
  clear hk
  refine pp5 hS rfl rfl rfl rfl rfl rfl rfl rfl rfl rfl ?_; clear hS
  intro tm hS
  refine o_nil (hR _ _ ?_)
  clear hR R
  refine c_seqS ?_
  refine cr2 hS rfl rfl rfl rfl ?_; clear hS
  intro tm hS
  refine c_cond hS rfl (fun h => by cases h) (fun _ => ?_)
  refine wpC.skip ?_
  refine c_reg fun R hR => ?_
  refine pp3 hS rfl rfl rfl rfl rfl rfl ?_; clear hS
  intro tm hS
  obtain ⟨⟨r26, r27⟩, hx14, h0⟩ := bindS h0
  refine o_call hS (.inl rfl) rfl (fun wm' hw1 hw2 => wk110  a1 b1   (hS.sel hw2) hx14) (fun wm' res H hw' hp => ?_)
  obtain ⟨hres, hI⟩ := hp
  replace hres := hres.symm; subst hres
  replace hS : S wm 27 _ H ((21, .tuple #[.int .i64 r26, .bool r27]) :: _) ([] ++ _) Fr := hS.after rfl hw' hI
  clear hI hw'
  refine pp2 hS rfl rfl rfl rfl ?_; clear hS
  intro tm hS
  obtain ⟨⟨r28, r29⟩, hx15, h0⟩ := bindS h0
  refine o_call hS (.inl rfl) rfl (fun wm' hw1 hw2 => wk101  r26 r27   (hS.sel hw2) hx15) (fun wm' res H hw' hp => ?_)
  obtain ⟨hres, hI⟩ := hp
  replace hres := hres.symm; subst hres
  replace hS : S wm 27 _ H ((24, .tuple #[.int .i64 r28, .int .i64 r29]) :: _) ([] ++ _) Fr := hS.after rfl hw' hI
  clear hI hw'
  refine pp4 hS rfl rfl rfl rfl rfl rfl rfl rfl ?_; clear hS
  intro tm hS
  refine o_nil (hR _ _ ?_)
  clear hR R
  refine wpC.ret ?_
  obtain rfl := Option.some.inj h0
  refine Exists.intro _ (And.intro (rs_tmp hS rfl (rs_tmp hS rfl rs_nil)) ?_)
  have hI := hS.inv
  exact ⟨rfl, (hI.sub sn)⟩
 rw [lookT_no hk] at hS
 replace h0 := iteF hk h0
 clear hk
 rcases Bool.eq_false_or_eq_true (fn1 == str_226_140_136) with hk | hk
 ·rw [lookT_yes hk] at hS
  replace h0 := iteT hk h0
  clear hk
  refine pp5 hS rfl rfl rfl rfl rfl rfl rfl rfl rfl rfl ?_; clear hS
  intro tm hS
  refine o_nil (hR _ _ ?_)
  clear hR R
  refine c_seqS ?_
  refine cr2 hS rfl rfl rfl rfl ?_; clear hS
  intro tm hS
  refine c_cond hS rfl (fun h => by cases h) (fun _ => ?_)
  refine wpC.skip ?_
  refine c_reg fun R hR => ?_
  refine pp3 hS rfl rfl rfl rfl rfl rfl ?_; clear hS
  intro tm hS
  obtain ⟨⟨r30, r31⟩, hx16, h0⟩ := bindS h0
  refine o_call hS (.inl rfl) rfl (fun wm' hw1 hw2 => wk111  a1 b1   (hS.sel hw2) hx16) (fun wm' res H hw' hp => ?_)
  obtain ⟨hres, hI⟩ := hp
  replace hres := hres.symm; subst hres
  replace hS : S wm 27 _ H ((21, .tuple #[.int .i64 r30, .bool r31]) :: _) ([] ++ _) Fr := hS.after rfl hw' hI
  clear hI hw'
  refine pp2 hS rfl rfl rfl rfl ?_; clear hS
  intro tm hS
  obtain ⟨⟨r32, r33⟩, hx17, h0⟩ := bindS h0
  refine o_call hS (.inl rfl) rfl (fun wm' hw1 hw2 => wk101  r30 r31   (hS.sel hw2) hx17) (fun wm' res H hw' hp => ?_)
  obtain ⟨hres, hI⟩ := hp
  replace hres := hres.symm; subst hres
  replace hS : S wm 27 _ H ((24, .tuple #[.int .i64 r32, .int .i64 r33]) :: _) ([] ++ _) Fr := hS.after rfl hw' hI
  clear hI hw'
  refine pp4 hS rfl rfl rfl rfl rfl rfl rfl rfl ?_; clear hS
  intro tm hS
  refine o_nil (hR _ _ ?_)
  clear hR R
  refine wpC.ret ?_
  obtain rfl := Option.some.inj h0
  refine Exists.intro _ (And.intro (rs_tmp hS rfl (rs_tmp hS rfl rs_nil)) ?_)
  have hI := hS.inv
  exact ⟨rfl, (hI.sub sn)⟩
 rw [lookT_no hk] at hS
 replace h0 := iteF hk h0
 clear hk
 rcases Bool.eq_false_or_eq_true (fn1 == str_226_140_138) with hk | hk
 ·rw [lookT_yes hk] at hS
  replace h0 := iteT hk h0
  clear hk
  refine pp5 hS rfl rfl rfl rfl rfl rfl rfl rfl rfl rfl ?_; clear hS
  intro tm hS
  refine o_nil (hR _ _ ?_)
  clear hR R
  refine c_seqS ?_
  refine cr2 hS rfl rfl rfl rfl ?_; clear hS
  intro tm hS
  refine c_cond hS rfl (fun h => by cases h) (fun _ => ?_)
  refine wpC.skip ?_
  refine c_reg fun R hR => ?_
  refine pp3 hS rfl rfl rfl rfl rfl rfl ?_; clear hS
  intro tm hS
  obtain ⟨⟨r34, r35⟩, hx18, h0⟩ := bindS h0
  refine o_call hS (.inl rfl) rfl (fun wm' hw1 hw2 => wk112  a1 b1   (hS.sel hw2) hx18) (fun wm' res H hw' hp => ?_)
  obtain ⟨hres, hI⟩ := hp
  replace hres := hres.symm; subst hres
  replace hS : S wm 27 _ H ((21, .tuple #[.int .i64 r34, .bool r35]) :: _) ([] ++ _) Fr := hS.after rfl hw' hI
  clear hI hw'
  refine pp2 hS rfl rfl rfl rfl ?_; clear hS
  intro tm hS
  obtain ⟨⟨r36, r37⟩, hx19, h0⟩ := bindS h0
  refine o_call hS (.inl rfl) rfl (fun wm' hw1 hw2 => wk101  r34 r35   (hS.sel hw2) hx19) (fun wm' res H hw' hp => ?_)
  obtain ⟨hres, hI⟩ := hp
  replace hres := hres.symm; subst hres
  replace hS : S wm 27 _ H ((24, .tuple #[.int .i64 r36, .int .i64 r37]) :: _) ([] ++ _) Fr := hS.after rfl hw' hI
  clear hI hw'
  refine pp4 hS rfl rfl rfl rfl rfl rfl rfl rfl ?_; clear hS
  intro tm hS
  refine o_nil (hR _ _ ?_)
  clear hR R
  refine wpC.ret ?_
  obtain rfl := Option.some.inj h0
  refine Exists.intro _ (And.intro (rs_tmp hS rfl (rs_tmp hS rfl rs_nil)) ?_)
  have hI := hS.inv
  exact ⟨rfl, (hI.sub sn)⟩
 rw [lookT_no hk] at hS
 replace h0 := iteF hk h0
 clear hk
 rcases Bool.eq_false_or_eq_true (fn1 == str_60) with hk | hk
 ·rw [lookT_yes hk] at hS
  replace h0 := iteT hk h0
  clear hk
  refine pp5 hS rfl rfl rfl rfl rfl rfl rfl rfl rfl rfl ?_; clear hS
  intro tm hS
  refine o_nil (hR _ _ ?_)
  clear hR R
  refine c_seqS ?_
  refine cr2 hS rfl rfl rfl rfl ?_; clear hS
  intro tm hS
  refine c_cond hS rfl (fun h => by cases h) (fun _ => ?_)
  refine wpC.skip ?_
  refine c_reg fun R hR => ?_
  refine pp3 hS rfl rfl rfl rfl rfl rfl ?_; clear hS
  intro tm hS
  obtain ⟨⟨r38, r39⟩, hx20, h0⟩ := bindS h0
  refine o_call hS (.inl rfl) rfl (fun wm' hw1 hw2 => wk113  a1 b1   (hS.sel hw2) hx20) (fun wm' res H hw' hp => ?_)
  obtain ⟨hres, hI⟩ := hp
  replace hres := hres.symm; subst hres
  replace hS : S wm 27 _ H ((21, .tuple #[.int .i64 r38, .bool r39]) :: _) ([] ++ _) Fr := hS.after rfl hw' hI
  clear hI hw'
  refine pp2 hS rfl rfl rfl rfl ?_; clear hS
  intro tm hS
  obtain ⟨⟨r40, r41⟩, hx21, h0⟩ := bindS h0
  refine o_call hS (.inl rfl) rfl (fun wm' hw1 hw2 => wk101  r38 r39   (hS.sel hw2) hx21) (fun wm' res H hw' hp => ?_)
  obtain ⟨hres, hI⟩ := hp
  replace hres := hres.symm; subst hres
  replace hS : S wm 27 _ H ((24, .tuple #[.int .i64 r40, .int .i64 r41]) :: _) ([] ++ _) Fr := hS.after rfl hw' hI
  clear hI hw'
  refine pp4 hS rfl rfl rfl rfl rfl rfl rfl rfl ?_; clear hS
  intro tm hS
  refine o_nil (hR _ _ ?_)
  clear hR R
  refine wpC.ret ?_
  obtain rfl := Option.some.inj h0
  refine Exists.intro _ (And.intro (rs_tmp hS rfl (rs_tmp hS rfl rs_nil)) ?_)
  have hI := hS.inv
  exact ⟨rfl, (hI.sub sn)⟩
 rw [lookT_no hk] at hS
 replace h0 := iteF hk h0
 clear hk
 rcases Bool.eq_false_or_eq_true (fn1 == str_226_137_164) with hk | hk
 ·rw [lookT_yes hk] at hS
  replace h0 := iteT hk h0
  clear hk
  refine pp5 hS rfl rfl rfl rfl rfl rfl rfl rfl rfl rfl ?_; clear hS
  intro tm hS
  refine o_nil (hR _ _ ?_)
  clear hR R
  refine c_seqS ?_
  refine cr2 hS rfl rfl rfl rfl ?_; clear hS
  intro tm hS
  refine c_cond hS rfl (fun h => by cases h) (fun _ => ?_)
  refine wpC.skip ?_
  refine c_reg fun R hR => ?_
  refine pp3 hS rfl rfl rfl rfl rfl rfl ?_; clear hS
  intro tm hS
  obtain ⟨⟨r42, r43⟩, hx22, h0⟩ := bindS h0
  refine o_call hS (.inl rfl) rfl (fun wm' hw1 hw2 => wk115  a1 b1   (hS.sel hw2) hx22) (fun wm' res H hw' hp => ?_)
  obtain ⟨hres, hI⟩ := hp
  replace hres := hres.symm; subst hres
  replace hS : S wm 27 _ H ((21, .tuple #[.int .i64 r42, .bool r43]) :: _) ([] ++ _) Fr := hS.after rfl hw' hI
  clear hI hw'
  refine pp2 hS rfl rfl rfl rfl ?_; clear hS
  intro tm hS
  obtain ⟨⟨r44, r45⟩, hx23, h0⟩ := bindS h0
  refine o_call hS (.inl rfl) rfl (fun wm' hw1 hw2 => wk101  r42 r43   (hS.sel hw2) hx23) (fun wm' res H hw' hp => ?_)
  obtain ⟨hres, hI⟩ := hp
  replace hres := hres.symm; subst hres
  replace hS : S wm 27 _ H ((24, .tuple #[.int .i64 r44, .int .i64 r45]) :: _) ([] ++ _) Fr := hS.after rfl hw' hI
  clear hI hw'
  refine pp4 hS rfl rfl rfl rfl rfl rfl rfl rfl ?_; clear hS
  intro tm hS
  refine o_nil (hR _ _ ?_)
  clear hR R
  refine wpC.ret ?_
  obtain rfl := Option.some.inj h0
  refine Exists.intro _ (And.intro (rs_tmp hS rfl (rs_tmp hS rfl rs_nil)) ?_)
  have hI := hS.inv
  exact ⟨rfl, (hI.sub sn)⟩
 rw [lookT_no hk] at hS
 replace h0 := iteF hk h0
 clear hk
 rcases Bool.eq_false_or_eq_true (fn1 == str_61) with hk | hk
 ·rw [lookT_yes hk] at hS
  replace h0 := iteT hk h0
  clear hk
  refine pp5 hS rfl rfl rfl rfl rfl rfl rfl rfl rfl rfl ?_; clear hS
  intro tm hS
  refine o_nil (hR _ _ ?_)
  clear hR R
  refine c_seqS ?_
  refine cr2 hS rfl rfl rfl rfl ?_; clear hS
  intro tm hS
  refine c_cond hS rfl (fun h => by cases h) (fun _ => ?_)
  refine wpC.skip ?_
  refine c_reg fun R hR => ?_
  refine pp3 hS rfl rfl rfl rfl rfl rfl ?_; clear hS
  intro tm hS
  obtain ⟨⟨r46, r47⟩, hx24, h0⟩ := bindS h0
  refine o_call hS (.inl rfl) rfl (fun wm' hw1 hw2 => wk116  a1 b1   (hS.sel hw2) hx24) (fun wm' res H hw' hp => ?_)
  obtain ⟨hres, hI⟩ := hp
  replace hres := hres.symm; subst hres
  replace hS : S wm 27 _ H ((21, .tuple #[.int .i64 r46, .bool r47]) :: _) ([] ++ _) Fr := hS.after rfl hw' hI
  clear hI hw'
  refine pp2 hS rfl rfl rfl rfl ?_; clear hS
  intro tm hS
  obtain ⟨⟨r48, r49⟩, hx25, h0⟩ := bindS h0
  refine o_call hS (.inl rfl) rfl (fun wm' hw1 hw2 => wk101  r46 r47   (hS.sel hw2) hx25) (fun wm' res H hw' hp => ?_)
  obtain ⟨hres, hI⟩ := hp
  replace hres := hres.symm; subst hres
  replace hS : S wm 27 _ H ((24, .tuple #[.int .i64 r48, .int .i64 r49]) :: _) ([] ++ _) Fr := hS.after rfl hw' hI
  clear hI hw'
  refine pp4 hS rfl rfl rfl rfl rfl rfl rfl rfl ?_; clear hS
  intro tm hS
  refine o_nil (hR _ _ ?_)
  clear hR R
  refine wpC.ret ?_
  obtain rfl := Option.some.inj h0
  refine Exists.intro _ (And.intro (rs_tmp hS rfl (rs_tmp hS rfl rs_nil)) ?_)
  have hI := hS.inv
  exact ⟨rfl, (hI.sub sn)⟩
 rw [lookT_no hk] at hS
 replace h0 := iteF hk h0
 clear hk
 rcases Bool.eq_false_or_eq_true (fn1 == str_226_137_165) with hk | hk
 ·rw [lookT_yes hk] at hS
  replace h0 := iteT hk h0
  clear hk
  refine pp5 hS rfl rfl rfl rfl rfl rfl rfl rfl rfl rfl ?_; clear hS
  intro tm hS
  refine o_nil (hR _ _ ?_)
  clear hR R
  refine c_seqS ?_
  refine cr2 hS rfl rfl rfl rfl ?_; clear hS
  intro tm hS
  refine c_cond hS rfl (fun h => by cases h) (fun _ => ?_)
  refine wpC.skip ?_
  refine c_reg fun R hR => ?_
  refine pp3 hS rfl rfl rfl rfl rfl rfl ?_; clear hS
  intro tm hS
  obtain ⟨⟨r50, r51⟩, hx26, h0⟩ := bindS h0
  refine o_call hS (.inl rfl) rfl (fun wm' hw1 hw2 => wk117  a1 b1   (hS.sel hw2) hx26) (fun wm' res H hw' hp => ?_)
  obtain ⟨hres, hI⟩ := hp
  replace hres := hres.symm; subst hres
  replace hS : S wm 27 _ H ((21, .tuple #[.int .i64 r50, .bool r51]) :: _) ([] ++ _) Fr := hS.after rfl hw' hI
  clear hI hw'
  refine pp2 hS rfl rfl rfl rfl ?_; clear hS
  intro tm hS
  obtain ⟨⟨r52, r53⟩, hx27, h0⟩ := bindS h0
  refine o_call hS (.inl rfl) rfl (fun wm' hw1 hw2 => wk101  r50 r51   (hS.sel hw2) hx27) (fun wm' res H hw' hp => ?_)
  obtain ⟨hres, hI⟩ := hp
  replace hres := hres.symm; subst hres
  replace hS : S wm 27 _ H ((24, .tuple #[.int .i64 r52, .int .i64 r53]) :: _) ([] ++ _) Fr := hS.after rfl hw' hI
  clear hI hw'
  refine pp4 hS rfl rfl rfl rfl rfl rfl rfl rfl ?_; clear hS
  intro tm hS
  refine o_nil (hR _ _ ?_)
  clear hR R
  refine wpC.ret ?_
  obtain rfl := Option.some.inj h0
  refine Exists.intro _ (And.intro (rs_tmp hS rfl (rs_tmp hS rfl rs_nil)) ?_)
  have hI := hS.inv
  exact ⟨rfl, (hI.sub sn)⟩
 rw [lookT_no hk] at hS
 replace h0 := iteF hk h0
 clear hk
 rcases Bool.eq_false_or_eq_true (fn1 == str_62) with hk | hk
 ·rw [lookT_yes hk] at hS
  replace h0 := iteT hk h0
  clear hk
  refine pp5 hS rfl rfl rfl rfl rfl rfl rfl rfl rfl rfl ?_; clear hS
  intro tm hS
  refine o_nil (hR _ _ ?_)
  clear hR R
  refine c_seqS ?_
  refine cr2 hS rfl rfl rfl rfl ?_; clear hS
  intro tm hS
  refine c_cond hS rfl (fun h => by cases h) (fun _ => ?_)
  refine wpC.skip ?_
  refine c_reg fun R hR => ?_
  refine pp3 hS rfl rfl rfl rfl rfl rfl ?_; clear hS
  intro tm hS
  obtain ⟨⟨r54, r55⟩, hx28, h0⟩ := bindS h0
  refine o_call hS (.inl rfl) rfl (fun wm' hw1 hw2 => wk118  a1 b1   (hS.sel hw2) hx28) (fun wm' res H hw' hp => ?_)
  obtain ⟨hres, hI⟩ := hp
  replace hres := hres.symm; subst hres
  replace hS : S wm 27 _ H ((21, .tuple #[.int .i64 r54, .bool r55]) :: _) ([] ++ _) Fr := hS.after rfl hw' hI
  clear hI hw'
  refine pp2 hS rfl rfl rfl rfl ?_; clear hS
  intro tm hS
  obtain ⟨⟨r56, r57⟩, hx29, h0⟩ := bindS h0
  refine o_call hS (.inl rfl) rfl (fun wm' hw1 hw2 => wk101  r54 r55   (hS.sel hw2) hx29) (fun wm' res H hw' hp => ?_)
  obtain ⟨hres, hI⟩ := hp
  replace hres := hres.symm; subst hres
  replace hS : S wm 27 _ H ((24, .tuple #[.int .i64 r56, .int .i64 r57]) :: _) ([] ++ _) Fr := hS.after rfl hw' hI
  clear hI hw'
  refine pp4 hS rfl rfl rfl rfl rfl rfl rfl rfl ?_; clear hS
  intro tm hS
  refine o_nil (hR _ _ ?_)
  clear hR R
  refine wpC.ret ?_
  obtain rfl := Option.some.inj h0
  refine Exists.intro _ (And.intro (rs_tmp hS rfl (rs_tmp hS rfl rs_nil)) ?_)
  have hI := hS.inv
  exact ⟨rfl, (hI.sub sn)⟩
 rw [lookT_no hk] at hS
 replace h0 := iteF hk h0
 clear hk
 rcases Bool.eq_false_or_eq_true (fn1 == str_226_137_160) with hk | hk
 ·rw [lookT_yes hk] at hS
  replace h0 := iteT hk h0
  clear hk
  refine pp5 hS rfl rfl rfl rfl rfl rfl rfl rfl rfl rfl ?_; clear hS
  intro tm hS
  refine o_nil (hR _ _ ?_)
  clear hR R
  refine c_seqS ?_
  refine cr2 hS rfl rfl rfl rfl ?_; clear hS
  intro tm hS
  refine c_cond hS rfl (fun h => by cases h) (fun _ => ?_)
  refine wpC.skip ?_
  refine c_reg fun R hR => ?_
  refine pp3 hS rfl rfl rfl rfl rfl rfl ?_; clear hS
  intro tm hS
  obtain ⟨⟨r58, r59⟩, hx30, h0⟩ := bindS h0
  refine o_call hS (.inl rfl) rfl (fun wm' hw1 hw2 => wk119  a1 b1   (hS.sel hw2) hx30) (fun wm' res H hw' hp => ?_)
  obtain ⟨hres, hI⟩ := hp
  replace hres := hres.symm; subst hres
  replace hS : S wm 27 _ H ((21, .tuple #[.int .i64 r58, .bool r59]) :: _) ([] ++ _) Fr := hS.after rfl hw' hI
  clear hI hw'
  refine pp2 hS rfl rfl rfl rfl ?_; clear hS
  intro tm hS
  obtain ⟨⟨r60, r61⟩, hx31, h0⟩ := bindS h0
  refine o_call hS (.inl rfl) rfl (fun wm' hw1 hw2 => wk101  r58 r59   (hS.sel hw2) hx31) (fun wm' res H hw' hp => ?_)
  obtain ⟨hres, hI⟩ := hp
  replace hres := hres.symm; subst hres
  replace hS : S wm 27 _ H ((24, .tuple #[.int .i64 r60, .int .i64 r61]) :: _) ([] ++ _) Fr := hS.after rfl hw' hI
  clear hI hw'
  refine pp4 hS rfl rfl rfl rfl rfl rfl rfl rfl ?_; clear hS
  intro tm hS
  refine o_nil (hR _ _ ?_)
  clear hR R
  refine wpC.ret ?_
  obtain rfl := Option.some.inj h0
  refine Exists.intro _ (And.intro (rs_tmp hS rfl (rs_tmp hS rfl rs_nil)) ?_)
  have hI := hS.inv
  exact ⟨rfl, (hI.sub sn)⟩
 rw [lookT_no hk] at hS
 replace h0 := iteF hk h0
 clear hk
 rcases Bool.eq_false_or_eq_true (fn1 == str_226_136_167) with hk | hk
 ·rw [lookT_yes hk] at hS
  replace h0 := iteT hk h0
  clear hk
  refine pp5 hS rfl rfl rfl rfl rfl rfl rfl rfl rfl rfl ?_; clear hS
  intro tm hS
  refine o_nil (hR _ _ ?_)
  clear hR R
  refine c_seqS ?_
  refine cr2 hS rfl rfl rfl rfl ?_; clear hS
  intro tm hS
  refine c_cond hS rfl (fun h => by cases h) (fun _ => ?_)
  refine wpC.skip ?_
  refine c_reg fun R hR => ?_
  refine pp3 hS rfl rfl rfl rfl rfl rfl ?_; clear hS
  intro tm hS
  obtain ⟨⟨r62, r63⟩, hx32, h0⟩ := bindS h0
  refine o_call hS (.inl rfl) rfl (fun wm' hw1 hw2 => wk120  a1 b1   (hS.sel hw2) hx32) (fun wm' res H hw' hp => ?_)
  obtain ⟨hres, hI⟩ := hp
  replace hres := hres.symm; subst hres
  replace hS : S wm 27 _ H ((21, .tuple #[.int .i64 r62, .bool r63]) :: _) ([] ++ _) Fr := hS.after rfl hw' hI
  clear hI hw'
  refine pp2 hS rfl rfl rfl rfl ?_; clear hS
  intro tm hS
  obtain ⟨⟨r64, r65⟩, hx33, h0⟩ := bindS h0
  refine o_call hS (.inl rfl) rfl (fun wm' hw1 hw2 => wk101  r62 r63   (hS.sel hw2) hx33) (fun wm' res H hw' hp => ?_)
  obtain ⟨hres, hI⟩ := hp
  replace hres := hres.symm; subst hres
  replace hS : S wm 27 _ H ((24, .tuple #[.int .i64 r64, .int .i64 r65]) :: _) ([] ++ _) Fr := hS.after rfl hw' hI
  clear hI hw'
  refine pp4 hS rfl rfl rfl rfl rfl rfl rfl rfl ?_; clear hS
  intro tm hS
  refine o_nil (hR _ _ ?_)
  clear hR R
  refine wpC.ret ?_
  obtain rfl := Option.some.inj h0
  refine Exists.intro _ (And.intro (rs_tmp hS rfl (rs_tmp hS rfl rs_nil)) ?_)
  have hI := hS.inv
  exact ⟨rfl, (hI.sub sn)⟩
 rw [lookT_no hk] at hS
 replace h0 := iteF hk h0
 clear hk
 rcases Bool.eq_false_or_eq_true (fn1 == str_226_136_168) with hk | hk
 ·rw [lookT_yes hk] at hS
  replace h0 := iteT hk h0
  clear hk
  refine pp5 hS rfl rfl rfl rfl rfl rfl rfl rfl rfl rfl ?_; clear hS
  intro tm hS
  refine o_nil (hR _ _ ?_)
  clear hR R
  refine c_seqS ?_
  refine cr2 hS rfl rfl rfl rfl ?_; clear hS
  intro tm hS
  refine c_cond hS rfl (fun h => by cases h) (fun _ => ?_)
  refine wpC.skip ?_
  refine c_reg fun R hR => ?_
  refine pp3 hS rfl rfl rfl rfl rfl rfl ?_; clear hS
  intro tm hS
  obtain ⟨⟨r66, r67⟩, hx34, h0⟩ := bindS h0
  refine o_call hS (.inl rfl) rfl (fun wm' hw1 hw2 => wk122  a1 b1   (hS.sel hw2) hx34) (fun wm' res H hw' hp => ?_)
  obtain ⟨hres, hI⟩ := hp
  replace hres := hres.symm; subst hres
  replace hS : S wm 27 _ H ((21, .tuple #[.int .i64 r66, .bool r67]) :: _) ([] ++ _) Fr := hS.after rfl hw' hI
  clear hI hw'
  refine pp2 hS rfl rfl rfl rfl ?_; clear hS
  intro tm hS
  obtain ⟨⟨r68, r69⟩, hx35, h0⟩ := bindS h0
  refine o_call hS (.inl rfl) rfl (fun wm' hw1 hw2 => wk101  r66 r67   (hS.sel hw2) hx35) (fun wm' res H hw' hp => ?_)
  obtain ⟨hres, hI⟩ := hp
  replace hres := hres.symm; subst hres
  replace hS : S wm 27 _ H ((24, .tuple #[.int .i64 r68, .int .i64 r69]) :: _) ([] ++ _) Fr := hS.after rfl hw' hI
  clear hI hw'
  refine pp4 hS rfl rfl rfl rfl rfl rfl rfl rfl ?_; clear hS
  intro tm hS
  refine o_nil (hR _ _ ?_)
  clear hR R
  refine wpC.ret ?_
  obtain rfl := Option.some.inj h0
  refine Exists.intro _ (And.intro (rs_tmp hS rfl (rs_tmp hS rfl rs_nil)) ?_)
  have hI := hS.inv
  exact ⟨rfl, (hI.sub sn)⟩
 rw [lookT_no hk] at hS
 replace h0 := iteF hk h0
 clear hk
 rcases Bool.eq_false_or_eq_true (fn1 == str_226_141_178) with hk | hk
 ·rw [lookT_yes hk] at hS
  replace h0 := iteT hk h0
  clear hk
  refine pp5 hS rfl rfl rfl rfl rfl rfl rfl rfl rfl rfl ?_; clear hS
  intro tm hS
  refine o_nil (hR _ _ ?_)
  clear hR R
  refine c_seqS ?_
  refine cr2 hS rfl rfl rfl rfl ?_; clear hS
  intro tm hS
  refine c_cond hS rfl (fun h => by cases h) (fun _ => ?_)
  refine wpC.skip ?_
  refine c_reg fun R hR => ?_
  refine pp3 hS rfl rfl rfl rfl rfl rfl ?_; clear hS
  intro tm hS
  obtain ⟨⟨r70, r71⟩, hx36, h0⟩ := bindS h0
  refine o_call hS (.inl rfl) rfl (fun wm' hw1 hw2 => wk123  a1 b1   (hS.sel hw2) hx36) (fun wm' res H hw' hp => ?_)
  obtain ⟨hres, hI⟩ := hp
  replace hres := hres.symm; subst hres
  replace hS : S wm 27 _ H ((21, .tuple #[.int .i64 r70, .bool r71]) :: _) ([] ++ _) Fr := hS.after rfl hw' hI
  clear hI hw'
  refine pp2 hS rfl rfl rfl rfl ?_; clear hS
  intro tm hS
  obtain ⟨⟨r72, r73⟩, hx37, h0⟩ := bindS h0
  refine o_call hS (.inl rfl) rfl (fun wm' hw1 hw2 => wk101  r70 r71   (hS.sel hw2) hx37) (fun wm' res H hw' hp => ?_)
  obtain ⟨hres, hI⟩ := hp
  replace hres := hres.symm; subst hres
  replace hS : S wm 27 _ H ((24, .tuple #[.int .i64 r72, .int .i64 r73]) :: _) ([] ++ _) Fr := hS.after rfl hw' hI
  clear hI hw'
  refine pp4 hS rfl rfl rfl rfl rfl rfl rfl rfl ?_; clear hS
  intro tm hS
  refine o_nil (hR _ _ ?_)
  clear hR R
  refine wpC.ret ?_
  obtain rfl := Option.some.inj h0
  refine Exists.intro _ (And.intro (rs_tmp hS rfl (rs_tmp hS rfl rs_nil)) ?_)
  have hI := hS.inv
  exact ⟨rfl, (hI.sub sn)⟩
 rw [lookT_no hk] at hS
 replace h0 := iteF hk h0
 clear hk
 rcases Bool.eq_false_or_eq_true (fn1 == str_226_141_177) with hk | hk
 ·rw [lookT_yes hk] at hS
  replace h0 := iteT hk h0
  clear hk
  refine pp5 hS rfl rfl rfl rfl rfl rfl rfl rfl rfl rfl ?_; clear hS
  intro tm hS
  refine o_nil (hR _ _ ?_)
  clear hR R
  refine c_seqS ?_
  refine cr2 hS rfl rfl rfl rfl ?_; clear hS
  intro tm hS
  refine c_cond hS rfl (fun h => by cases h) (fun _ => ?_)
  refine wpC.skip ?_
  refine c_reg fun R hR => ?_
  refine pp3 hS rfl rfl rfl rfl rfl rfl ?_; clear hS
  intro tm hS
  obtain ⟨⟨r74, r75⟩, hx38, h0⟩ := bindS h0
  refine o_call hS (.inl rfl) rfl (fun wm' hw1 hw2 => wk124  a1 b1   (hS.sel hw2) hx38) (fun wm' res H hw' hp => ?_)
  obtain ⟨hres, hI⟩ := hp
  replace hres := hres.symm; subst hres
  replace hS : S wm 27 _ H ((21, .tuple #[.int .i64 r74, .bool r75]) :: _) ([] ++ _) Fr := hS.after rfl hw' hI
  clear hI hw'
  refine pp2 hS rfl rfl rfl rfl ?_; clear hS
  intro tm hS
  obtain ⟨⟨r76, r77⟩, hx39, h0⟩ := bindS h0
  refine o_call hS (.inl rfl) rfl (fun wm' hw1 hw2 => wk101  r74 r75   (hS.sel hw2) hx39) (fun wm' res H hw' hp => ?_)
  obtain ⟨hres, hI⟩ := hp
  replace hres := hres.symm; subst hres
  replace hS : S wm 27 _ H ((24, .tuple #[.int .i64 r76, .int .i64 r77]) :: _) ([] ++ _) Fr := hS.after rfl hw' hI
  clear hI hw'
  refine pp4 hS rfl rfl rfl rfl rfl rfl rfl rfl ?_; clear hS
  intro tm hS
  refine o_nil (hR _ _ ?_)
  clear hR R
  refine wpC.ret ?_
  obtain rfl := Option.some.inj h0
  refine Exists.intro _ (And.intro (rs_tmp hS rfl (rs_tmp hS rfl rs_nil)) ?_)
  have hI := hS.inv
  exact ⟨rfl, (hI.sub sn)⟩
 rw [lookT_no hk] at hS
 replace h0 := iteF hk h0
 clear hk
 rw [lookT_nil] at hS
 refine pp5 hS rfl rfl rfl rfl rfl rfl rfl rfl rfl rfl ?_; clear hS
 intro tm hS
 refine o_nil (hR _ _ ?_)
 clear hR R
 refine c_seqS ?_
 refine cr2 hS rfl rfl rfl rfl ?_; clear hS
 intro tm hS
 refine c_cond hS rfl (fun _ => ?_) (fun h => by cases h)
 refine cr2 hS rfl rfl rfl rfl ?_; clear hS
 intro tm hS
 refine wpC.ret ?_
 obtain rfl := Option.some.inj h0
 refine Exists.intro _ (And.intro (rs_tmp hS rfl (rs_tmp hS rfl rs_nil)) ?_)
 have hI := hS.inv
 exact ⟨rfl, (hI.sub sn)⟩
theorem wk87 {wm : Nat} {H : AHeap} {Fr : List Ent} (ho100 : ora 100 = false) (a1 : Am.Item) (b1 : Am.Item) (x1 : ByteArray)  (b2 : Nat) (hI : Kn wm H [.fbox b2 [.string x1]] Fr) {r : Am.Item × Int} (h0 : M.over_function_1 a1 b1 x1 = some r) :
  wpF Try.prog ora wm 87 [.agg #[.int .i64 a1.n, .bool a1.char], .agg #[.int .i64 b1.n, .bool b1.char], .pointer (some ⟨b2, 0, none⟩)] H (fun res H => res = .tuple #[.agg #[.int .i64 r.1.n, .bool r.1.char], .int .i64 r.2] ∧ Kn wm H [] Fr) := by
 unfold M.over_function_1 at h0
 refine f_enter (n := 33) Try.func87 rfl (by simp) hI rfl rfl rfl fun tm hS => ?_
 clear hI
 refine c_reg fun R hR => ?_
 refine o_box hS (.inl rfl) rfl rfl rfl (all_cons rfl (all_cons rfl all_nil)) ?_; clear hS
 intro b3 tm H hS
 refine o_box hS (.inl rfl) rfl rfl rfl (all_cons rfl (all_cons rfl all_nil)) ?_; clear hS
 intro b4 tm H hS
 refine o_alloc hS (.inl rfl) rfl Fz72 (by decide) ?_; clear hS
 intro b5 tm H hS
 refine pp1 hS rfl rfl ?_; clear hS
 intro tm hS
 refine o_nil (hR _ _ ?_)
 clear hR R
 refine c_seqS ?_
 refine c_reg fun R hR => ?_
 refine pp1 hS rfl rfl ?_; clear hS
 intro tm hS
 refine o_ld1 (k := 2) hS (.inl rfl) rfl rfl rfl (.inl rfl) Fu4 rfl rfl ?_; clear hS
 intro tm hS
 refine pp1 hS rfl rfl ?_; clear hS
 intro tm hS
 obtain ⟨c1, hc1⟩ : ∃ x : Bool, x = (a1.char || b1.char) := ⟨_, rfl⟩
 refine o_cutN 3 (J := fun tm H => S wm 33 tm H [(14, .bool c1), (2, .pointer (some ⟨b2, 0, none⟩)), (3, .pointer (some ⟨b3, 0, none⟩)), (4, .pointer (some ⟨b4, 0, none⟩)), (5, .pointer (some ⟨b5, 0, none⟩))] [.box b5 [.int .i64 0, .bool false], .box b4 [.int .i64 b1.n, .bool b1.char], .box b3 [.int .i64 a1.n, .bool a1.char], .fbox b2 [.string x1]] Fr) ?_ ?_
 ·rcases Bool.eq_false_or_eq_true a1.char with hg1 | hg1
  ·refine o_skip hS rfl rfl rfl hg1 ?_; clear hS
   intro tm hS
   refine o_skip hS rfl rfl rfl hg1 ?_; clear hS
   intro tm hS
   refine o_pickT hS (.inl rfl) rfl rfl hg1 rfl ?_; clear hS
   intro tm hS
   have hc1 : c1 = true := hc1.trans (by rw [hg1]; first | rfl | simp)
   subst hc1
   exact o_nil (hS.keep (k5 rfl rfl rfl rfl rfl) (fun hI => (hI.sub (sc (sc (sc (sc sn)))))))
  ·refine o_pure hS (.inr ⟨_, _, _, _, rfl, rfl, rfl, hg1⟩) rfl rfl ?_; clear hS
   intro tm hS
   refine o_ld1 (k := 1) hS (.inr ⟨_, _, _, _, rfl, rfl, rfl, hg1⟩) rfl rfl rfl (.inl rfl) Fu4 rfl rfl ?_; clear hS
   intro tm hS
   refine o_pickF hS (.inl rfl) rfl rfl hg1 rfl ?_; clear hS
   intro tm hS
   have hc1 : c1 = b1.char := hc1.trans (by rw [hg1]; first | rfl | simp)
   subst hc1
   exact o_nil (hS.keep (k5 rfl rfl rfl rfl rfl) (fun hI => (hI.sub (sc (sc (sc (sc sn)))))))
 intro tm H hS
 subst hc1
 refine o_nil (hR _ _ ?_)
 clear hR R
 refine c_cond hS rfl (fun hc => ?_) (fun hc => ?_)
 ·replace h0 := iteT hc h0
  refine c_reg fun R hR => ?_
  refine o_ld1 (k := 3) hS (.inl rfl) rfl rfl rfl (.inr rfl) Fu9 rfl rfl ?_; clear hS
  intro tm hS
  refine o_ldA (k := 2) hS (.inl rfl) rfl rfl rfl (.inl rfl) Fu72 rfl Fs72 rfl ?_; clear hS
  intro tm hS
  refine o_ldA (k := 1) hS (.inl rfl) rfl rfl rfl (.inl rfl) Fu72 rfl Fs72 rfl ?_; clear hS
  intro tm hS
  obtain ⟨⟨r1, r2⟩, hx1, h0⟩ := bindS h0
  refine o_call hS (.inl rfl) rfl (fun wm' hw1 hw2 => wk88  x1 a1 b1   (hS.sel hw2) hx1) (fun wm' res H hw' hp => ?_)
  obtain ⟨hres, hI⟩ := hp
  replace hres := hres.symm; subst hres
  replace hS : S wm 33 _ H ((18, .tuple #[.agg #[.int .i64 r1.n, .bool r1.char], .int .i64 r2]) :: _) ([] ++ _) Fr := hS.after rfl hw' hI
  clear hI hw'
  refine pp2 hS rfl rfl rfl rfl ?_; clear hS
  intro tm hS
  refine o_st (k := 0) hS (.inl rfl) rfl rfl rfl Fs72 rfl rfl (all_cons rfl (all_cons rfl all_nil)) rfl ?_; clear hS; try clear H
  intro H hS
  refine pp1 hS rfl rfl ?_; clear hS
  intro tm hS
  refine o_nil (hR _ _ ?_)
  clear hR R
  refine wpC.ret ?_
  obtain rfl := Option.some.inj h0
  refine Exists.intro _ (And.intro (rs_cellA (k := 0) hS rfl rfl (.inl rfl) Fu72 rfl Fs72 rfl (rs_tmp hS rfl rs_nil)) ?_)
  have hI := hS.inv
  exact ⟨rfl, (hI.sub sn)⟩
 ·replace h0 := iteF hc h0
  refine wpC.skip ?_
  refine c_reg fun R hR => ?_
  refine o_ld1 (k := 3) hS (.inl rfl) rfl rfl rfl (.inr rfl) Fu9 rfl rfl ?_; clear hS
  intro tm hS
  refine pp1 hS rfl rfl ?_; clear hS
  intro tm hS
  refine o_ld1 (k := 2) hS (.inl rfl) rfl rfl rfl (.inl rfl) Fu2 rfl rfl ?_; clear hS
  intro tm hS
  refine pp1 hS rfl rfl ?_; clear hS
  intro tm hS
  refine o_ld1 (k := 1) hS (.inl rfl) rfl rfl rfl (.inl rfl) Fu2 rfl rfl ?_; clear hS
  intro tm hS
  obtain ⟨⟨r3, r4⟩, hx2, h0⟩ := bindS h0
  refine o_call hS (.inl rfl) rfl (fun wm' hw1 hw2 => wk84 ho100 x1 a1.n b1.n   (hS.sel hw2) hx2) (fun wm' res H hw' hp => ?_)
  obtain ⟨hres, hI⟩ := hp
  replace hres := hres.symm; subst hres
  replace hS : S wm 33 _ H ((27, .tuple #[.int .i64 r3, .int .i64 r4]) :: _) ([] ++ _) Fr := hS.after rfl hw' hI
  clear hI hw'
  refine pp5 hS rfl rfl rfl rfl rfl rfl rfl rfl rfl rfl ?_; clear hS
  intro tm hS
  refine o_nil (hR _ _ ?_)
  clear hR R
  refine c_reg fun R hR => ?_
  refine pp1 hS rfl rfl ?_; clear hS
  intro tm hS
  refine o_build hS (.inl rfl) rfl Fb72 rfl (.cons rfl .nil) rfl ?_; clear hS
  intro tm hS
  refine pp1 hS rfl rfl ?_; clear hS
  intro tm hS
  refine o_st (k := 0) hS (.inl rfl) rfl rfl rfl Fs72 rfl rfl (all_cons rfl (all_cons rfl all_nil)) rfl ?_; clear hS; try clear H
  intro H hS
  refine pp1 hS rfl rfl ?_; clear hS
  intro tm hS
  refine o_nil (hR _ _ ?_)
  clear hR R
  refine wpC.ret ?_
  obtain rfl := Option.some.inj h0
  refine Exists.intro _ (And.intro (rs_cellA (k := 0) hS rfl rfl (.inl rfl) Fu72 rfl Fs72 rfl (rs_tmp hS rfl rs_nil)) ?_)
  have hI := hS.inv
  exact ⟨rfl, (hI.sub sn)⟩
theorem wk61 {wm : Nat} {H : AHeap} {Fr : List Ent}  (fn1 : ByteArray)   (hI : Kn wm H [] Fr) {r : (Option ByteArray) × Bool} (h0 : M.over_function fn1 = some r) :
  wpF Try.prog ora wm 61 [.string fn1] H (fun res H => ∃ v1, res = .tuple #[v1, .bool r.2] ∧ Kn wm H [.el (rClo 87) [v1] r.1] Fr) := by
 unfold M.over_function at h0
 refine f_enter (n := 14) Try.func61 rfl (by simp) hI rfl rfl rfl fun tm hS => ?_
 clear hI
 refine c_reg fun R hR => ?_
 refine o_box hS (.inl rfl) rfl rfl rfl (all_cons rfl all_nil) ?_; clear hS
 intro b1 tm H hS
 refine pp2 hS rfl rfl rfl rfl ?_; clear hS
 intro tm hS
 refine o_nil (hR _ _ ?_)
 clear hR R
 refine c_seqS ?_
 refine c_reg fun R hR => ?_
 refine o_ld1 (k := 0) hS (.inl rfl) rfl rfl rfl (.inl rfl) Fu9 rfl rfl ?_; clear hS
 intro tm hS
 obtain ⟨⟨r1, r2⟩, hx1, h0⟩ := bindS h0
 refine o_call hS (.inl rfl) rfl (fun wm' hw1 hw2 => wk69  fn1   (hS.sel hw2) hx1) (fun wm' res H hw' hp => ?_)
 obtain ⟨hres, hI⟩ := hp
 replace hres := hres.symm; subst hres
 replace hS : S wm 14 _ H ((8, .tuple #[.int .i64 r1, .int .i64 r2]) :: _) ([] ++ _) Fr := hS.after rfl hw' hI
 clear hI hw'
 refine pp5 hS rfl rfl rfl rfl rfl rfl rfl rfl rfl rfl ?_; clear hS
 intro tm hS
 refine o_nil (hR _ _ ?_)
 clear hR R
 refine cr2 hS rfl rfl rfl rfl ?_; clear hS
 intro tm hS
 refine c_cond hS rfl (fun hc => ?_) (fun hc => ?_)
 ·replace h0 := iteT hc h0
  refine cr2 hS rfl rfl rfl rfl ?_; clear hS
  intro tm hS
  refine wpC.ret ?_
  obtain rfl := Option.some.inj h0
  replace hS := hS.cloNil 87
  refine Exists.intro _ (And.intro (rs_tmp hS rfl (rs_tmp hS rfl rs_nil)) ?_)
  have hI := hS.inv
  exact ⟨.nilFunc, rfl, (hI.sub (sc sn))⟩
 ·replace h0 := iteF hc h0
  refine wpC.skip ?_
  refine cr3 hS rfl rfl rfl rfl rfl rfl ?_; clear hS
  intro tm hS
  refine wpC.ret ?_
  obtain rfl := Option.some.inj h0
  replace hS := hS.frzBox (k := 0) rfl
  replace hS := hS.cloMk (k := 0) 87 rfl
  refine Exists.intro _ (And.intro (rs_tmp hS rfl (rs_tmp hS rfl rs_nil)) ?_)
  have hI := hS.inv
  exact ⟨(.func (.func 87) #[] #[.pointer (some ⟨b1, 0, none⟩)]), rfl, (hI.sub (sc sn))⟩
theorem wk31 {wm : Nat} {H : AHeap} {Fr : List Ent}  (fn1 : ByteArray) (l1 : (List Val))  (v1 : Value) (hI : Kn wm H [.fz rVal v1 l1] Fr) {r : (Option ByteArray) × Int} (h0 : M.over_takes fn1 l1 = some r) :
  wpF Try.prog ora wm 31 [.string fn1, v1] H (fun res H => ∃ v3, res = .tuple #[v3, .int .i64 r.2] ∧ Kn wm H [.el (rClo 87) [v3] r.1] Fr) := by
 unfold M.over_takes at h0
 refine f_enter (n := 18) Try.func31 rfl (by simp) hI rfl rfl rfl fun tm hS => ?_
 clear hI
 refine cr2 hS rfl rfl rfl rfl ?_; clear hS
 intro tm hS
 refine c_seqS ?_
 refine c_reg fun R hR => ?_
 refine pp1 hS rfl rfl ?_; clear hS
 intro tm hS
 obtain ⟨r1, hx1, h0⟩ := bindS h0
 refine o_call hS (.inl rfl) rfl (fun wm' hw1 hw2 => wk58  l1 (fun x0 => M.over_takes_1 x0) 60 #[] [] (by simp [Ent.blk]) (fun x0 u0_0 u0_1 hI _ h0 => wk60  x0  u0_0 u0_1 hI h0) v1 ((hS.sel hw2).ad 0 rfl) hx1) (fun wm' res H hw' hp => ?_)
 obtain ⟨hres, hI⟩ := hp
 replace hres := hres.symm; subst hres
 replace hS : S wm 18 _ H ((9, .bool r1) :: _) ([] ++ _) Fr := hS.after rfl hw' hI
 clear hI hw'
 refine o_nil (hR _ _ ?_)
 clear hR R
 refine c_cond hS rfl (fun hc => ?_) (fun hc => ?_)
 ·replace h0 := iteT hc h0
  refine cr2 hS rfl rfl rfl rfl ?_; clear hS
  intro tm hS
  refine wpC.ret ?_
  obtain rfl := Option.some.inj h0
  replace hS := hS.cloNil 87
  refine Exists.intro _ (And.intro (rs_tmp hS rfl (rs_tmp hS rfl rs_nil)) ?_)
  have hI := hS.inv
  exact ⟨.nilFunc, rfl, (hI.sub (sc sn))⟩
 ·replace h0 := iteF hc h0
  refine wpC.skip ?_
  refine c_reg fun R hR => ?_
  refine pp1 hS rfl rfl ?_; clear hS
  intro tm hS
  obtain ⟨⟨r2, r3⟩, hx2, h0⟩ := bindS h0
  refine o_call hS (.inl rfl) rfl (fun wm' hw1 hw2 => wk61  fn1   (hS.sel hw2) hx2) (fun wm' res H hw' hp => ?_)
  obtain ⟨v2, hres, hI⟩ := hp
  replace hres := hres.symm; subst hres
  replace hS : S wm 18 _ H ((12, .tuple #[v2, .bool r3]) :: _) ([.el (rClo 87) [v2] r2] ++ _) Fr := hS.after rfl hw' hI
  clear hI hw'
  refine pp5 hS rfl rfl rfl rfl rfl rfl rfl rfl rfl rfl ?_; clear hS
  intro tm hS
  refine o_nil (hR _ _ ?_)
  clear hR R
  refine c_seqS ?_
  refine cr2 hS rfl rfl rfl rfl ?_; clear hS
  intro tm hS
  refine c_cond hS rfl (fun hc => ?_) (fun hc => ?_)
  ·replace h0 := iteT hc h0
   refine cr2 hS rfl rfl rfl rfl ?_; clear hS
   intro tm hS
   refine wpC.ret ?_
   obtain rfl := Option.some.inj h0
   replace hS := hS.cloNil 87
   refine Exists.intro _ (And.intro (rs_tmp hS rfl (rs_tmp hS rfl rs_nil)) ?_)
   have hI := hS.inv
   exact ⟨.nilFunc, rfl, (hI.sub (sc sn))⟩
  ·replace h0 := iteF hc h0
   refine wpC.skip ?_
   refine cr3 hS rfl rfl rfl rfl rfl rfl ?_; clear hS
   intro tm hS
   refine wpC.ret ?_
   obtain rfl := Option.some.inj h0
   refine Exists.intro _ (And.intro (rs_tmp hS rfl (rs_tmp hS rfl rs_nil)) ?_)
   have hI := hS.inv
   exact ⟨v2, rfl, (hI.sub (sc sn))⟩
theorem wk70 {wm : Nat} {H : AHeap} {Fr : List Ent} (s1 : (List Int)) (n1 : Int) (hI : Kn wm H [] Fr) {r : (List Int)} (h0 : M.slices_Grow__int s1 n1 = some r) :
  wpF Try.prog ora wm 70 [.slice none 0 0, .int .i64 n1] H (fun res H => ∃ v2, res = v2 ∧ Kn wm H [.own (rI .i64) v2 r] Fr) := by
 unfold M.slices_Grow__int grow at h0
 split at h0
 case isFalse => cases h0
 rename_i hn
 obtain rfl := Option.some.inj h0
 refine f_enter (n := 27) Try.func70 rfl (by simp) hI rfl rfl rfl fun tm hS => ?_
 refine c_reg fun R hR => ?_
 refine o_pure hS (.inl rfl) rfl rfl fun tm hS => ?_
 refine o_nil (hR _ _ ?_)
 refine c_seqS ?_
 refine c_reg fun R hR => ?_
 refine o_pure hS (.inl rfl) rfl rfl fun tm hS => ?_
 refine o_pure hS (.inl rfl) rfl rfl fun tm hS => ?_
 refine o_nil (hR _ _ ?_)
 refine c_cond hS rfl (fun hc => ?_) (fun hc => ?_)
 ·exfalso
  have : n1 < 0 := by simpa using hc
  omega
 refine wpC.skip ?_
 refine c_seqS ?_
 refine c_reg fun R hR => ?_
 refine o_pure hS (.inl rfl) rfl rfl fun tm hS => ?_
 refine o_pure hS (.inl rfl) rfl rfl fun tm hS => ?_
 refine o_capNil hS (.inl rfl) rfl rfl rfl Fu22 fun tm hS => ?_
 refine o_pure hS (.inl rfl) rfl rfl fun tm hS => ?_
 replace hS := hS.nilFz (rI .i64)
 refine o_len (k := 0) (r := (rI .i64)) hS (.inl rfl) rfl rfl rfl (.inl rfl) Fu22 rfl fun tm hS => ?_
 refine o_pure hS (.inl rfl) rfl rfl fun tm hS => ?_
 refine o_pure hS (.inl rfl) rfl rfl fun tm hS => ?_
 have he : IntKind.i64.wrap (n1 - IntKind.i64.wrap (0 - (([] : (List Int)).length : Int))) = n1 := by
  have h1 : IntKind.i64.wrap (0 - (([] : (List Int)).length : Int)) = 0 := by rw [IntKind.wrap_i64] <;> simp
  rw [h1, IntKind.wrap_i64] <;> omega
 rw [he] at hS
 refine o_pure hS (.inl rfl) rfl rfl fun tm hS => ?_
 refine o_nil (hR _ _ ?_)
 refine c_reg fun R hR => ?_
 refine o_pure hS (.inl rfl) rfl rfl fun tm hS => ?_
 refine o_pure hS (.inl rfl) rfl rfl fun tm hS => ?_
 refine o_nil (hR _ _ ?_)
 refine c_cond hS rfl (fun hc => ?_) (fun hc => ?_)
 ·have hk : 0 < n1 := by
   have : n1 > 0 := by simpa using hc
   omega
  refine c_reg1 fun R hR => ?_
  refine o_pure hS (.inl rfl) rfl rfl fun tm hS => ?_
  refine o_pure hS (.inl rfl) rfl rfl fun tm hS => ?_
  refine o_capNil hS (.inl rfl) rfl rfl rfl Fu22 fun tm hS => ?_
  refine o_sliceV hS (.inl rfl) rfl rfl (vlo := []) (vhi := [.int .i64 0]) (vmx := []) rfl rfl rfl (v := .slice none 0 0) (by
   have e : bnd 0 (some (.int .i64 ((0 : Nat) : Int))) = some (some 0) := bnd_some (Nat.le_refl 0)
   unfold aSlice
   simp only [Fu22, Fs3, List.head?_nil, List.head?_cons, bnd, Option.isSome_none, Option.isNone_none, Bool.and_true, Bool.and_false, Bool.false_eq_true, if_false, Option.getD_some, Option.getD_none]
   simp) fun tm hS => ?_
  refine o_pure hS (.inl rfl) rfl rfl fun tm hS => ?_
  refine o_appZ (r := (rI .i64)) hS (.inl rfl) rfl rfl rfl rfl Fu3 Fm22 rfl rfl hk hn.2 fun b cells tm H hg hS => ?_
  refine o_pure hS (.inl rfl) rfl rfl fun tm hS => ?_
  refine o_len (k := 1) (r := (rI .i64)) hS (.inl rfl) rfl rfl rfl (.inl rfl) Fu22 rfl fun tm hS => ?_
  refine o_sliceV hS (.inl rfl) rfl rfl (vlo := []) (vhi := [.int .i64 (([] : (List Int)).length : Int)]) (vmx := []) rfl rfl rfl (aSlice_row Fu22 Fs3 hg (m := none) (h := some 0) (l := none) rfl rfl (bnd_some (by simp)) rfl) fun tm hS => ?_
  simp only [Option.getD_none, Option.getD_some, Nat.sub_zero, Nat.zero_mul, Nat.add_zero] at hS ⊢
  refine o_pure hS (.inl rfl) rfl rfl fun tm hS => ?_
  refine o_nil (hR _ _ ?_)
  refine c_reg fun R hR => ?_
  refine o_pure hS (.inl rfl) rfl rfl fun tm hS => ?_
  refine o_pure hS (.inl rfl) rfl rfl fun tm hS => ?_
  refine o_nil (hR _ _ ?_)
  refine wpC.ret ?_
  refine Exists.intro _ (And.intro (rs_tmp hS rfl rs_nil) ?_)
  exact ⟨_, rfl, hS.inv.take 1⟩
 ·refine wpC.skip ?_
  refine c_reg fun R hR => ?_
  refine o_pure hS (.inl rfl) rfl rfl fun tm hS => ?_
  refine o_pure hS (.inl rfl) rfl rfl fun tm hS => ?_
  refine o_nil (hR _ _ ?_)
  refine wpC.ret ?_
  replace hS := hS.nilOwn (rI .i64)
  refine Exists.intro _ (And.intro (rs_tmp hS rfl rs_nil) ?_)
  exact ⟨_, rfl, hS.inv.take 1⟩
theorem wk39 {wm : Nat} {H : AHeap} {Fr : List Ent}  (slices1 : (List (List Int)))  (v1 : Value) (hI : Kn wm H [.fz (rL (rI .i64)) v1 slices1] Fr) {r : (List Int)} (h0 : M.slices_Concat__int slices1 = some r) :
  wpF Try.prog ora wm 39 [v1] H (fun res H => ∃ v7, res = v7 ∧ Kn wm H [.own (rI .i64) v7 r] Fr) := by
 unfold M.slices_Concat__int at h0
 refine f_enter (n := 36) Try.func39 rfl (by simp) hI rfl rfl rfl fun tm hS => ?_
 clear hI
 refine cr1 hS rfl rfl ?_; clear hS
 intro tm hS
 refine cr1 hS rfl rfl ?_; clear hS
 intro tm hS
 refine c_seqS ?_
 refine c_reg fun R hR => ?_
 refine pp1 hS rfl rfl ?_; clear hS
 intro tm hS
 refine o_len (k := 0) (r := (rL (rI .i64))) hS (.inl rfl) rfl rfl rfl (.inl rfl) Fu113 rfl ?_; clear hS
 intro tm hS
 refine pp1 hS rfl rfl ?_; clear hS
 intro tm hS
 refine o_nil (hR _ _ ?_)
 clear hR R
 obtain ⟨k1, hw1, h0⟩ := bindS h0
 refine wpC.block ?_
 refine c_loop (I := fun (s : Int × Int) tm H => match (generalizing := false) s with | (size1, t1) => S wm 36 tm H [(0, v1), (3, .int .i64 size1), (9, v1), (10, .int .i64 (slices1.length : Int)), (11, .int .i64 t1)] [.fz (rL (rI .i64)) v1 slices1] Fr) hw1 (by change S wm 36 _ _ _ _ Fr; exact hS.keep (k5 rfl rfl rfl rfl rfl) (fun hI => (hI.sub (sc sn)))) ?_
 clear hS
 intro s1 tm H c1 hS h1 hq1
 obtain ⟨size1, t1⟩ := s1
 change S wm 36 tm H [(0, v1), (3, .int .i64 size1), (9, v1), (10, .int .i64 (slices1.length : Int)), (11, .int .i64 t1)] [.fz (rL (rI .i64)) v1 slices1] Fr at hS
 refine cr1 hS rfl rfl ?_; clear hS
 intro tm hS
 refine c_seqS ?_
 refine c_cond hS rfl (fun hc => ?_) (fun hc => ?_)
 ·replace h1 := iteT hc h1
  refine wpC.skip ?_
  refine c_seqS ?_
  refine wpC.block ?_
  refine c_reg fun R hR => ?_
  obtain ⟨y1, hx1, h1⟩ := bindS h1
  refine o_ixA (k := 0) (r := (rL (rI .i64))) hS (.inl rfl) rfl rfl rfl rfl (.inl rfl) Fu113 Fs22 hx1 ?_; clear hS
  intro tm hS
  refine o_ldS (k := 0) hS (.inl rfl) rfl rfl rfl (.inl rfl) hx1 Fu22 rfl ?_; clear hS
  intro v2 tm hS
  refine pp1 hS rfl rfl ?_; clear hS
  intro tm hS
  refine o_nil (hR _ _ ?_)
  clear hR R
  refine c_reg fun R hR => ?_
  refine pp2 hS rfl rfl rfl rfl ?_; clear hS
  intro tm hS
  refine o_len (k := 0) (r := (rI .i64)) hS (.inl rfl) rfl rfl rfl (.inl rfl) Fu22 rfl ?_; clear hS
  intro tm hS
  refine pp2 hS rfl rfl rfl rfl ?_; clear hS
  intro tm hS
  refine o_nil (hR _ _ ?_)
  clear hR R
  refine cr2 hS rfl rfl rfl rfl ?_; clear hS
  intro tm hS
  refine c_cond hS rfl (fun hc => ?_) (fun hc => ?_)
  ·replace h1 := iteT hc h1
   cases h1
  ·replace h1 := iteF hc h1
   refine wpC.skip ?_
   refine cs2 hS rfl rfl rfl rfl ?_; clear hS
   intro tm hS
   obtain rfl := Option.some.inj h1
   refine ⟨_, rfl, ?_⟩
   change S wm 36 _ _ _ _ Fr; exact hS.keep (k5 rfl rfl rfl rfl rfl) (fun hI => (hI.sub (sd (sc sn))))
 ·replace h1 := iteF hc h1
  refine wpC.exit ?_
  refine seqX ?_
  obtain rfl := Option.some.inj h1
  obtain rfl := hq1 _ rfl
  refine And.intro rfl (blk_eq ?_)
  replace h0 := joinN h0
  refine c_reg fun R hR => ?_
  refine pp1 hS rfl rfl ?_; clear hS
  intro tm hS
  obtain ⟨r1, hx2, h0⟩ := bindS h0
  refine o_call hS (.inl rfl) rfl (fun wm' hw1 hw2 => wk70  ([]) size1   (hS.sel hw2) hx2) (fun wm' res H hw' hp => ?_)
  obtain ⟨v3, hres, hI⟩ := hp
  replace hres := hres.symm; subst hres
  replace hS : S wm 36 _ H ((24, v3) :: _) ([.own (rI .i64) v3 r1] ++ _) Fr := hS.after rfl hw' hI
  clear hI hw'
  refine pp1 hS rfl rfl ?_; clear hS
  intro tm hS
  refine o_nil (hR _ _ ?_)
  clear hR R
  refine c_seqS ?_
  refine c_reg fun R hR => ?_
  refine pp1 hS rfl rfl ?_; clear hS
  intro tm hS
  refine o_len (k := 1) (r := (rL (rI .i64))) hS (.inl rfl) rfl rfl rfl (.inl rfl) Fu113 rfl ?_; clear hS
  intro tm hS
  refine pp1 hS rfl rfl ?_; clear hS
  intro tm hS
  refine o_nil (hR _ _ ?_)
  clear hR R
  obtain ⟨k2, hw2, h0⟩ := bindS h0
  refine wpC.block ?_
  refine c_loop (I := fun (s : (List Int) × Int) tm H => match (generalizing := false) s with | (newslice1, t2) => ∃ v4, S wm 36 tm H [(6, v4), (25, v1), (26, .int .i64 (slices1.length : Int)), (27, .int .i64 t2)] [.own (rI .i64) v4 newslice1, .fz (rL (rI .i64)) v1 slices1] Fr) hw2 (by refine Exists.intro v3 ?_; change S wm 36 _ _ _ _ Fr; exact hS.keep (k4 rfl rfl rfl rfl) (fun hI => (hI.sub (sc (sc sn))))) ?_
  clear hS
  intro s2 tm H c2 hS h3 hq3
  obtain ⟨newslice1, t2⟩ := s2
  obtain ⟨v4, hS⟩ := hS
  change S wm 36 tm H [(6, v4), (25, v1), (26, .int .i64 (slices1.length : Int)), (27, .int .i64 t2)] [.own (rI .i64) v4 newslice1, .fz (rL (rI .i64)) v1 slices1] Fr at hS
  refine cr1 hS rfl rfl ?_; clear hS
  intro tm hS
  refine c_seqS ?_
  refine c_cond hS rfl (fun hc => ?_) (fun hc => ?_)
  ·replace h3 := iteT hc h3
   refine wpC.skip ?_
   refine c_seqS ?_
   refine wpC.block ?_
   refine c_reg fun R hR => ?_
   obtain ⟨y2, hx3, h3⟩ := bindS h3
   refine o_ixA (k := 1) (r := (rL (rI .i64))) hS (.inl rfl) rfl rfl rfl rfl (.inl rfl) Fu113 Fs22 hx3 ?_; clear hS
   intro tm hS
   refine o_ldS (k := 1) hS (.inl rfl) rfl rfl rfl (.inl rfl) hx3 Fu22 rfl ?_; clear hS
   intro v5 tm hS
   refine pp1 hS rfl rfl ?_; clear hS
   intro tm hS
   refine o_nil (hR _ _ ?_)
   clear hR R
   refine c_reg1 fun R hR => ?_
   refine pp2 hS rfl rfl rfl rfl ?_; clear hS
   intro tm hS
   obtain ⟨l1, hx4, h3⟩ := bindS h3
   refine o_app (k1 := 1) (k2 := 0) (r := (rI .i64)) hS (.inl rfl) rfl rfl rfl rfl rfl (.inl rfl) rfl Fe22_22 rfl hx4 ?_; clear hS
   intro v6 tm H hS
   refine pp1 hS rfl rfl ?_; clear hS
   intro tm hS
   refine o_nil (hR _ _ ?_)
   clear hR R
   refine cs2 hS rfl rfl rfl rfl ?_; clear hS
   intro tm hS
   obtain rfl := Option.some.inj h3
   refine ⟨_, rfl, ?_⟩
   refine Exists.intro v6 ?_; change S wm 36 _ _ _ _ Fr; exact hS.keep (k4 rfl rfl rfl rfl) (fun hI => (hI.sub (sd (sc (sc sn)))))
  ·replace h3 := iteF hc h3
   refine wpC.exit ?_
   refine seqX ?_
   obtain rfl := Option.some.inj h3
   obtain rfl := hq3 _ rfl
   refine And.intro rfl (blk_eq ?_)
   replace h0 := joinN h0
   refine cr2 hS rfl rfl rfl rfl ?_; clear hS
   intro tm hS
   refine wpC.ret ?_
   obtain rfl := Option.some.inj h0
   refine Exists.intro _ (And.intro (rs_tmp hS rfl rs_nil) ?_)
   have hI := hS.inv
   exact ⟨v4, rfl, (hI.sub (sc sn))⟩
theorem wk89 {wm : Nat} {H : AHeap} {Fr : List Ent}  (s1 : (List Int)) (f1 : (Int → Option (Bool))) (gfn1 : FuncId) (gcap1 : Array Value) (E : List Ent) (hE : ∀ e ∈ E, e.blk = none) (hf : ∀ {wm : Nat} {H : AHeap} {Fr : List Ent} (y0 : Int) , Kn wm H (E) Fr → ∀ {r : Bool}, f1 y0 = some r → wpF Try.prog ora wm gfn1 ([.int .i64 y0] ++ gcap1.toList) H (fun res H => res = .bool r ∧ Kn wm H [] Fr)) (v1 : Value) (hI : Kn wm H (.fz (rI .i64) v1 s1 :: E) Fr) {r : Int} (h0 : M.slices_IndexFunc__int s1 f1 = some r) :
  wpF Try.prog ora wm 89 [v1, .func (.func gfn1) #[] gcap1] H (fun res H => res = .int .i64 r ∧ Kn wm H [] Fr) := by
 unfold M.slices_IndexFunc__int at h0
 refine f_enter (n := 19) Try.func89 rfl (by simp) hI rfl rfl rfl fun tm hS => ?_
 clear hI
 refine cr1 hS rfl rfl ?_; clear hS
 intro tm hS
 refine c_seqS ?_
 refine c_reg fun R hR => ?_
 refine pp1 hS rfl rfl ?_; clear hS
 intro tm hS
 refine o_len (k := 0) (r := (rI .i64)) hS (.inl rfl) rfl rfl rfl (.inl rfl) Fu22 rfl ?_; clear hS
 intro tm hS
 refine pp1 hS rfl rfl ?_; clear hS
 intro tm hS
 refine o_nil (hR _ _ ?_)
 clear hR R
 obtain ⟨k1, hw1, h0⟩ := bindS h0
 refine wpC.block ?_
 refine c_loop (I := fun (s : Int) tm H => match (generalizing := false) s with | t1 => S wm 19 tm H [(0, v1), (1, .func (.func gfn1) #[] gcap1), (7, .int .i64 (s1.length : Int)), (8, .int .i64 t1)] (.fz (rI .i64) v1 s1 :: E) Fr) hw1 (by change S wm 19 _ _ _ _ Fr; exact hS.keep (k4 rfl rfl rfl rfl) (fun hI => (hI.sub (sc sr)))) ?_
 clear hS
 intro t1 tm H c1 hS h1 hq1
 change S wm 19 tm H [(0, v1), (1, .func (.func gfn1) #[] gcap1), (7, .int .i64 (s1.length : Int)), (8, .int .i64 t1)] (.fz (rI .i64) v1 s1 :: E) Fr at hS
 refine cr1 hS rfl rfl ?_; clear hS
 intro tm hS
 refine c_seqS ?_
 refine c_cond hS rfl (fun hc => ?_) (fun hc => ?_)
 ·replace h1 := iteT hc h1
  refine wpC.skip ?_
  refine c_seqS ?_
  refine wpC.block ?_
  refine cr2 hS rfl rfl rfl rfl ?_; clear hS
  intro tm hS
  refine c_reg fun R hR => ?_
  refine pp3 hS rfl rfl rfl rfl rfl rfl ?_; clear hS
  intro tm hS
  obtain ⟨y1, hx1, h1⟩ := bindS h1
  refine o_ixA (k := 0) (r := (rI .i64)) hS (.inl rfl) rfl rfl rfl rfl (.inl rfl) Fu22 Fs3 hx1 ?_; clear hS
  intro tm hS
  refine o_ldF (r := (rI .i64)) (k := 0) hS (.inl rfl) rfl rfl rfl (.inl rfl) hx1 Fu3 rfl (flat_I _) rfl ?_; clear hS
  intro tm hS
  obtain ⟨r1, hx2, h1⟩ := bindS h1
  refine o_call hS (.inl rfl) rfl (fun wm' hw1 hw2 => hf y1  ((hS.sel hw2).adAll hE (fun e he => List.mem_cons_of_mem _ (he))) hx2) (fun wm' res H hw' hp => ?_)
  obtain ⟨hres, hI⟩ := hp
  replace hres := hres.symm; subst hres
  replace hS : S wm 19 _ H ((16, .bool r1) :: _) ([] ++ _) Fr := hS.after rfl hw' hI
  clear hI hw'
  refine o_nil (hR _ _ ?_)
  clear hR R
  refine c_cond hS rfl (fun hc => ?_) (fun hc => ?_)
  ·replace h1 := iteT hc h1
   refine cr2 hS rfl rfl rfl rfl ?_; clear hS
   intro tm hS
   refine wpC.ret ?_
   obtain rfl := Option.some.inj h1
   obtain rfl := hq1 _ rfl
   refine And.intro rfl ?_
   obtain rfl := leave h0
   refine Exists.intro _ (And.intro (rs_tmp hS rfl rs_nil) ?_)
   have hI := hS.inv
   exact ⟨rfl, (hI.sub sn)⟩
  ·replace h1 := iteF hc h1
   refine wpC.skip ?_
   refine cs2 hS rfl rfl rfl rfl ?_; clear hS
   intro tm hS
   obtain rfl := Option.some.inj h1
   refine ⟨_, rfl, ?_⟩
   change S wm 19 _ _ _ _ Fr; exact hS.keep (k4 rfl rfl rfl rfl) (fun hI => (hI.sub (sc sr)))
 ·replace h1 := iteF hc h1
  refine wpC.exit ?_
  refine seqX ?_
  obtain rfl := Option.some.inj h1
  obtain rfl := hq1 _ rfl
  refine And.intro rfl (blk_eq ?_)
  replace h0 := joinN h0
  refine cr1 hS rfl rfl ?_; clear hS
  intro tm hS
  refine wpC.ret ?_
  obtain rfl := Option.some.inj h0
  refine Exists.intro _ (And.intro (rs_tmp hS rfl rs_nil) ?_)
  have hI := hS.inv
  exact ⟨rfl, (hI.sub sn)⟩
theorem wk64 {wm : Nat} {H : AHeap} {Fr : List Ent}  (s1 : (List Int)) (f1 : (Int → Option (Bool))) (gfn1 : FuncId) (gcap1 : Array Value) (E : List Ent) (hE : ∀ e ∈ E, e.blk = none) (hf : ∀ {wm : Nat} {H : AHeap} {Fr : List Ent} (y0 : Int) , Kn wm H (E) Fr → ∀ {r : Bool}, f1 y0 = some r → wpF Try.prog ora wm gfn1 ([.int .i64 y0] ++ gcap1.toList) H (fun res H => res = .bool r ∧ Kn wm H [] Fr)) (v1 : Value) (hI : Kn wm H (.fz (rI .i64) v1 s1 :: E) Fr) {r : Bool} (h0 : M.slices_ContainsFunc__int s1 f1 = some r) :
  wpF Try.prog ora wm 64 [v1, .func (.func gfn1) #[] gcap1] H (fun res H => res = .bool r ∧ Kn wm H [] Fr) := by
 unfold M.slices_ContainsFunc__int at h0
 refine f_enter (n := 9) Try.func64 rfl (by simp) hI rfl rfl rfl fun tm hS => ?_
 clear hI
 refine cr1 hS rfl rfl ?_; clear hS
 intro tm hS
 refine c_reg fun R hR => ?_
 refine pp2 hS rfl rfl rfl rfl ?_; clear hS
 intro tm hS
 obtain ⟨r1, hx1, h0⟩ := bindS h0
 refine o_call hS (.inl rfl) rfl (fun wm' hw1 hw2 => wk89  s1 f1 gfn1 gcap1 E hE hf v1 (((hS.sel hw2).adAll hE (fun e he => List.mem_cons_of_mem _ (he))).ad 0 rfl) hx1) (fun wm' res H hw' hp => ?_)
 obtain ⟨hres, hI⟩ := hp
 replace hres := hres.symm; subst hres
 replace hS : S wm 9 _ H ((7, .int .i64 r1) :: _) ([] ++ _) Fr := hS.after rfl hw' hI
 clear hI hw'
 refine pp2 hS rfl rfl rfl rfl ?_; clear hS
 intro tm hS
 refine o_nil (hR _ _ ?_)
 clear hR R
 refine wpC.ret ?_
 obtain rfl := Option.some.inj h0
 refine Exists.intro _ (And.intro (rs_tmp hS rfl rs_nil) ?_)
 have hI := hS.inv
 exact ⟨rfl, (hI.sub sn)⟩
theorem wk65 {wm : Nat} {H : AHeap} {Fr : List Ent}  (n1 : Int)   (hI : Kn wm H [] Fr) {r : Bool} (h0 : M.shape_Size_1 n1 = some r) :
  wpF Try.prog ora wm 65 [.int .i64 n1] H (fun res H => res = .bool r ∧ Kn wm H [] Fr) := by
 unfold M.shape_Size_1 at h0
 refine f_enter (n := 5) Try.func65 rfl (by simp) hI rfl rfl rfl fun tm hS => ?_
 clear hI
 refine cr1 hS rfl rfl ?_; clear hS
 intro tm hS
 refine cr3 hS rfl rfl rfl rfl rfl rfl ?_; clear hS
 intro tm hS
 refine wpC.ret ?_
 obtain rfl := Option.some.inj h0
 refine Exists.intro _ (And.intro (rs_tmp hS rfl rs_nil) ?_)
 have hI := hS.inv
 exact ⟨rfl, (hI.sub sn)⟩
theorem wk66 {wm : Nat} {H : AHeap} {Fr : List Ent}  (n1 : Int)   (hI : Kn wm H [] Fr) {r : Bool} (h0 : M.shape_Size_2 n1 = some r) :
  wpF Try.prog ora wm 66 [.int .i64 n1] H (fun res H => res = .bool r ∧ Kn wm H [] Fr) := by
 unfold M.shape_Size_2 at h0
 refine f_enter (n := 5) Try.func66 rfl (by simp) hI rfl rfl rfl fun tm hS => ?_
 clear hI
 refine cr1 hS rfl rfl ?_; clear hS
 intro tm hS
 refine cr3 hS rfl rfl rfl rfl rfl rfl ?_; clear hS
 intro tm hS
 refine wpC.ret ?_
 obtain rfl := Option.some.inj h0
 refine Exists.intro _ (And.intro (rs_tmp hS rfl rs_nil) ?_)
 have hI := hS.inv
 exact ⟨rfl, (hI.sub sn)⟩
theorem wk67 {wm : Nat} {H : AHeap} {Fr : List Ent}  (s1 : (List Int))  (v1 : Value) (hI : Kn wm H [.fz (rI .i64) v1 s1] Fr) {r : Int} (h0 : M.shape_product s1 = some r) :
  wpF Try.prog ora wm 67 [v1] H (fun res H => res = .int .i64 r ∧ Kn wm H [] Fr) := by
 unfold M.shape_product at h0
 refine f_enter (n := 17) Try.func67 rfl (by simp) hI rfl rfl rfl fun tm hS => ?_
 clear hI
 refine cr1 hS rfl rfl ?_; clear hS
 intro tm hS
 refine cr1 hS rfl rfl ?_; clear hS
 intro tm hS
 refine c_seqS ?_
 refine c_reg fun R hR => ?_
 refine pp1 hS rfl rfl ?_; clear hS
 intro tm hS
 refine o_len (k := 0) (r := (rI .i64)) hS (.inl rfl) rfl rfl rfl (.inl rfl) Fu22 rfl ?_; clear hS
 intro tm hS
 refine pp1 hS rfl rfl ?_; clear hS
 intro tm hS
 refine o_nil (hR _ _ ?_)
 clear hR R
 obtain ⟨k1, hw1, h0⟩ := bindS h0
 refine wpC.block ?_
 refine c_loop (I := fun (s : Int × Int) tm H => match (generalizing := false) s with | (p1, t1) => S wm 17 tm H [(3, .int .i64 p1), (6, v1), (7, .int .i64 (s1.length : Int)), (8, .int .i64 t1)] [.fz (rI .i64) v1 s1] Fr) hw1 (by change S wm 17 _ _ _ _ Fr; exact hS.keep (k4 rfl rfl rfl rfl) (fun hI => (hI.sub (sc sn)))) ?_
 clear hS
 intro s2 tm H c1 hS h1 hq1
 obtain ⟨p1, t1⟩ := s2
 change S wm 17 tm H [(3, .int .i64 p1), (6, v1), (7, .int .i64 (s1.length : Int)), (8, .int .i64 t1)] [.fz (rI .i64) v1 s1] Fr at hS
 refine cr1 hS rfl rfl ?_; clear hS
 intro tm hS
 refine c_seqS ?_
 refine c_cond hS rfl (fun hc => ?_) (fun hc => ?_)
 ·replace h1 := iteT hc h1
  refine wpC.skip ?_
  refine c_seqS ?_
  refine wpC.block ?_
  refine c_reg fun R hR => ?_
  obtain ⟨y1, hx1, h1⟩ := bindS h1
  refine o_ixA (k := 0) (r := (rI .i64)) hS (.inl rfl) rfl rfl rfl rfl (.inl rfl) Fu22 Fs3 hx1 ?_; clear hS
  intro tm hS
  refine o_ldF (r := (rI .i64)) (k := 0) hS (.inl rfl) rfl rfl rfl (.inl rfl) hx1 Fu3 rfl (flat_I _) rfl ?_; clear hS
  intro tm hS
  refine pp1 hS rfl rfl ?_; clear hS
  intro tm hS
  refine o_nil (hR _ _ ?_)
  clear hR R
  refine c_reg1 fun R hR => ?_
  refine pp4 hS rfl rfl rfl rfl rfl rfl rfl rfl ?_; clear hS
  intro tm hS
  refine o_nil (hR _ _ ?_)
  clear hR R
  refine cs2 hS rfl rfl rfl rfl ?_; clear hS
  intro tm hS
  obtain rfl := Option.some.inj h1
  refine ⟨_, rfl, ?_⟩
  change S wm 17 _ _ _ _ Fr; exact hS.keep (k4 rfl rfl rfl rfl) (fun hI => (hI.sub (sc sn)))
 ·replace h1 := iteF hc h1
  refine wpC.exit ?_
  refine seqX ?_
  obtain rfl := Option.some.inj h1
  obtain rfl := hq1 _ rfl
  refine And.intro rfl (blk_eq ?_)
  replace h0 := joinN h0
  refine cr2 hS rfl rfl rfl rfl ?_; clear hS
  intro tm hS
  refine wpC.ret ?_
  obtain rfl := Option.some.inj h0
  refine Exists.intro _ (And.intro (rs_tmp hS rfl rs_nil) ?_)
  have hI := hS.inv
  exact ⟨rfl, (hI.sub sn)⟩
theorem wk35 {wm : Nat} {H : AHeap} {Fr : List Ent}  (s1 : (List Int))  (v1 : Value) (hI : Kn wm H [.fz (rI .i64) v1 s1] Fr) {r : Int × Int} (h0 : M.shape_Size s1 = some r) :
  wpF Try.prog ora wm 35 [v1] H (fun res H => res = .tuple #[.int .i64 r.1, .int .i64 r.2] ∧ Kn wm H [] Fr) := by
 unfold M.shape_Size at h0
 refine f_enter (n := 19) Try.func35 rfl (by simp) hI rfl rfl rfl fun tm hS => ?_
 clear hI
 refine cr2 hS rfl rfl rfl rfl ?_; clear hS
 intro tm hS
 refine c_seqS ?_
 refine wpC.block ?_
 refine c_reg fun R hR => ?_
 refine pp1 hS rfl rfl ?_; clear hS
 intro tm hS
 refine o_len (k := 0) (r := (rI .i64)) hS (.inl rfl) rfl rfl rfl (.inl rfl) Fu22 rfl ?_; clear hS
 intro tm hS
 refine pp2 hS rfl rfl rfl rfl ?_; clear hS
 intro tm hS
 refine o_nil (hR _ _ ?_)
 clear hR R
 refine c_cond hS rfl (fun hc => ?_) (fun hc => ?_)
 ·replace h0 := iteT hc h0
  refine cr2 hS rfl rfl rfl rfl ?_; clear hS
  intro tm hS
  refine wpC.ret ?_
  obtain rfl := Option.some.inj h0
  refine Exists.intro _ (And.intro (rs_tmp hS rfl (rs_tmp hS rfl rs_nil)) ?_)
  have hI := hS.inv
  exact ⟨rfl, (hI.sub sn)⟩
 ·replace h0 := iteF hc h0
  refine c_reg fun R hR => ?_
  refine pp1 hS rfl rfl ?_; clear hS
  intro tm hS
  obtain ⟨r1, hx1, h0⟩ := bindS h0
  refine o_call hS (.inl rfl) rfl (fun wm' hw1 hw2 => wk64  s1 (fun x0 => M.shape_Size_1 x0) 65 #[] [] (by simp [Ent.blk]) (fun x0 hI _ h0 => wk65  x0   hI h0) v1 ((hS.sel hw2).ad 0 rfl) hx1) (fun wm' res H hw' hp => ?_)
  obtain ⟨hres, hI⟩ := hp
  replace hres := hres.symm; subst hres
  replace hS : S wm 19 _ H ((10, .bool r1) :: _) ([] ++ _) Fr := hS.after rfl hw' hI
  clear hI hw'
  refine pp1 hS rfl rfl ?_; clear hS
  intro tm hS
  refine o_nil (hR _ _ ?_)
  clear hR R
  refine c_cond hS rfl (fun hc => ?_) (fun hc => ?_)
  ·replace h0 := iteT hc h0
   refine cr2 hS rfl rfl rfl rfl ?_; clear hS
   intro tm hS
   refine wpC.ret ?_
   obtain rfl := Option.some.inj h0
   refine Exists.intro _ (And.intro (rs_tmp hS rfl (rs_tmp hS rfl rs_nil)) ?_)
   have hI := hS.inv
   exact ⟨rfl, (hI.sub sn)⟩
  ·replace h0 := iteF hc h0
   obtain ⟨t1, h1, h0⟩ := bindS h0
   refine c_seqJ (J := fun tm H => (match (generalizing := false) t1 with | t1 => S wm 19 tm H [(0, v1), (11, .bool t1)] [.fz (rI .i64) v1 s1] Fr)) ?_ ?_
   ·refine c_reg fun R hR => ?_
    refine pp1 hS rfl rfl ?_; clear hS
    intro tm hS
    obtain ⟨r2, hx2, h1⟩ := bindS h1
    refine o_call hS (.inl rfl) rfl (fun wm' hw1 hw2 => wk64  s1 (fun x0 => M.shape_Size_2 x0) 66 #[] [] (by simp [Ent.blk]) (fun x0 hI _ h0 => wk66  x0   hI h0) v1 ((hS.sel hw2).ad 0 rfl) hx2) (fun wm' res H hw' hp => ?_)
    obtain ⟨hres, hI⟩ := hp
    replace hres := hres.symm; subst hres
    replace hS : S wm 19 _ H ((13, .bool r2) :: _) ([] ++ _) Fr := hS.after rfl hw' hI
    clear hI hw'
    refine pp1 hS rfl rfl ?_; clear hS
    intro tm hS
    refine o_nil (hR _ _ ?_)
    clear hR R
    refine c_cond hS rfl (fun hc => ?_) (fun hc => ?_)
    ·replace h1 := iteT hc h1
     refine wpC.skip ?_
     obtain rfl := Option.some.inj h1
     change S wm 19 _ _ _ _ Fr; exact hS.keep (k2 rfl rfl) (fun hI => (hI.sub (sc sn)))
    ·replace h1 := iteF hc h1
     refine c_reg1 fun R hR => ?_
     refine pp1 hS rfl rfl ?_; clear hS
     intro tm hS
     obtain ⟨r3, hx3, h1⟩ := bindS h1
     refine o_call hS (.inl rfl) rfl (fun wm' hw1 hw2 => wk67  s1  v1 ((hS.sel hw2).ad 0 rfl) hx3) (fun wm' res H hw' hp => ?_)
     obtain ⟨hres, hI⟩ := hp
     replace hres := hres.symm; subst hres
     replace hS : S wm 19 _ H ((15, .int .i64 r3) :: _) ([] ++ _) Fr := hS.after rfl hw' hI
     clear hI hw'
     refine pp2 hS rfl rfl rfl rfl ?_; clear hS
     intro tm hS
     refine o_nil (hR _ _ ?_)
     clear hR R
     obtain rfl := Option.some.inj h1
     change S wm 19 _ _ _ _ Fr; exact hS.keep (k2 rfl rfl) (fun hI => (hI.sub (sc sn)))
   intro tm H hS
   change S wm 19 tm H [(0, v1), (11, .bool t1)] [.fz (rI .i64) v1 s1] Fr at hS
   refine c_cond hS rfl (fun hc => ?_) (fun hc => ?_)
   ·replace h0 := iteT hc h0
    refine cr2 hS rfl rfl rfl rfl ?_; clear hS
    intro tm hS
    refine wpC.ret ?_
    obtain rfl := Option.some.inj h0
    refine Exists.intro _ (And.intro (rs_tmp hS rfl (rs_tmp hS rfl rs_nil)) ?_)
    have hI := hS.inv
    exact ⟨rfl, (hI.sub sn)⟩
   ·replace h0 := iteF hc h0
    refine wpC.skip ?_
    refine c_reg fun R hR => ?_
    refine pp1 hS rfl rfl ?_; clear hS
    intro tm hS
    obtain ⟨r4, hx4, h0⟩ := bindS h0
    refine o_call hS (.inl rfl) rfl (fun wm' hw1 hw2 => wk67  s1  v1 ((hS.sel hw2).ad 0 rfl) hx4) (fun wm' res H hw' hp => ?_)
    obtain ⟨hres, hI⟩ := hp
    replace hres := hres.symm; subst hres
    replace hS : S wm 19 _ H ((18, .int .i64 r4) :: _) ([] ++ _) Fr := hS.after rfl hw' hI
    clear hI hw'
    refine pp2 hS rfl rfl rfl rfl ?_; clear hS
    intro tm hS
    refine o_nil (hR _ _ ?_)
    clear hR R
    refine wpC.ret ?_
    obtain rfl := Option.some.inj h0
    refine Exists.intro _ (And.intro (rs_tmp hS rfl (rs_tmp hS rfl rs_nil)) ?_)
    have hI := hS.inv
    exact ⟨rfl, (hI.sub sn)⟩
theorem wk40 {wm : Nat} {H : AHeap} {Fr : List Ent}  (v1 : Val) (k1 : Int)  (v2 : Value) (v3 : Value) (hI : Kn wm H [.fz (rI .i64) v2 v1.Shape, .fz (rI .i64) v3 v1.Data] Fr) {r : Am.Item} (h0 : M.over_at v1 k1 = some r) :
  wpF Try.prog ora wm 40 [.agg #[.bool v1.Char, v2, v3], .int .i64 k1] H (fun res H => res = .agg #[.int .i64 r.n, .bool r.char] ∧ Kn wm H [] Fr) := by
 unfold M.over_at at h0
 refine f_enter (n := 13) Try.func40 rfl (by simp) hI rfl rfl rfl fun tm hS => ?_
 clear hI
 refine c_reg fun R hR => ?_
 refine o_box hS (.inl rfl) rfl rfl rfl (all_cons rfl (all_cons (hS.one (k := 0) rfl (.inl rfl)) (all_cons (hS.one (k := 1) rfl (.inl rfl)) all_nil))) ?_; clear hS
 intro b1 tm H hS
 refine o_alloc hS (.inl rfl) rfl Fz72 (by decide) ?_; clear hS
 intro b2 tm H hS
 refine o_nil (hR _ _ ?_)
 clear hR R
 refine c_reg fun R hR => ?_
 refine pp1 hS rfl rfl ?_; clear hS
 intro tm hS
 refine o_ld1 (k := 1) hS (.inl rfl) rfl rfl rfl (.inl rfl) Fu23 rfl rfl ?_; clear hS
 intro tm hS
 refine pp1 hS rfl rfl ?_; clear hS
 intro tm hS
 obtain ⟨y1, hx1, h0⟩ := bindS h0
 refine o_ixA (k := 3) (r := (rI .i64)) hS (.inl rfl) rfl rfl rfl rfl (.inl rfl) Fu23 Fs2 hx1 ?_; clear hS
 intro tm hS
 refine o_ldF (r := (rI .i64)) (k := 3) hS (.inl rfl) rfl rfl rfl (.inl rfl) hx1 Fu2 rfl (flat_I _) rfl ?_; clear hS
 intro tm hS
 refine pp1 hS rfl rfl ?_; clear hS
 intro tm hS
 refine o_ld1 (k := 1) hS (.inl rfl) rfl rfl rfl (.inl rfl) Fu4 rfl rfl ?_; clear hS
 intro tm hS
 refine o_build hS (.inl rfl) rfl Fb72 rfl (.cons rfl (.cons rfl .nil)) rfl ?_; clear hS
 intro tm hS
 refine o_st (k := 0) hS (.inl rfl) rfl rfl rfl Fs72 rfl rfl (all_cons rfl (all_cons rfl all_nil)) rfl ?_; clear hS; try clear H
 intro H hS
 refine o_nil (hR _ _ ?_)
 clear hR R
 refine wpC.ret ?_
 obtain rfl := Option.some.inj h0
 refine Exists.intro _ (And.intro (rs_cellA (k := 0) hS rfl rfl (.inl rfl) Fu72 rfl Fs72 rfl rs_nil) ?_)
 have hI := hS.inv
 exact ⟨rfl, (hI.sub sn)⟩
end Go.Proofs.Ytblgdjpeedgnoaa.overTwo
