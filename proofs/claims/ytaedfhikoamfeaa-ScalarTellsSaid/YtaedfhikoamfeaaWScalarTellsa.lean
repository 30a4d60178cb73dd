/- ScalarTells: walks of the code: the run of each function comes to what its plain function says. -/
import Derived.Test.YtaedfhikoamfeaaMScalarTells
import Derived.Test.YtaedfhikoamfeaaProg
set_option maxHeartbeats 4000000
set_option linter.unusedVariables false
set_option linter.unusedSimpArgs false
set_option maxRecDepth 100000
open Go Go.Am Go.Proofs
namespace Go.Proofs.Ytaedfhikoamfeaa.scalarTells
variable {ora : FuncId → Bool}
theorem Fu27 : Try.prog.underlying 27 = some ((Try.prog.underlying 27).getD .bool) := by kernel_rfl
theorem Fs27 : sizeOf' Try.prog 27 = some 3 := by kernel_rfl
theorem Fu23 : Try.prog.underlying 23 = some (.slice 2) := by kernel_rfl
theorem Fu22 : Try.prog.underlying 22 = some (.slice 3) := by kernel_rfl
theorem Fl24 : LitOk Try.prog 24 1 9 ((zeroOf Try.prog 9).getD undef) := ⟨by kernel_rfl, by kernel_rfl, by kernel_rfl, by kernel_rfl, by kernel_rfl, by decide⟩
theorem Fe24_24 : ElemOk Try.prog 24 24 1 16 9 9 ((Try.prog.info? 9).getD default) (((Try.prog.info? 9).getD default).zero.getD undef) := ⟨by kernel_rfl, by kernel_rfl, by kernel_rfl, by kernel_rfl, by kernel_rfl, by kernel_rfl, by kernel_rfl, by decide, by kernel_rfl, by decide⟩
theorem Fu24 : Try.prog.underlying 24 = some (.slice 9) := by kernel_rfl
theorem Fs9 : sizeOf' Try.prog 9 = some 1 := by kernel_rfl
theorem Fu9 : Try.prog.underlying 9 = some .string := by kernel_rfl
theorem Fl23 : LitOk Try.prog 23 1 2 ((zeroOf Try.prog 2).getD undef) := ⟨by kernel_rfl, by kernel_rfl, by kernel_rfl, by kernel_rfl, by kernel_rfl, by decide⟩
theorem Fe23_23 : ElemOk Try.prog 23 23 1 8 2 2 ((Try.prog.info? 2).getD default) (((Try.prog.info? 2).getD default).zero.getD undef) := ⟨by kernel_rfl, by kernel_rfl, by kernel_rfl, by kernel_rfl, by kernel_rfl, by kernel_rfl, by kernel_rfl, by decide, by kernel_rfl, by decide⟩
theorem Fz27 : zeroOf Try.prog 27 = some ((zeroOf Try.prog 27).getD undef) ∧ constOk ((zeroOf Try.prog 27).getD undef) = true ∧ ((zeroOf Try.prog 27).getD undef).cells.toList = [.bool false, (.slice none 0 0), (.slice none 0 0)] := ⟨by kernel_rfl, by kernel_rfl, by kernel_rfl⟩
theorem Fu115 : Try.prog.underlying 115 = some (.map 9 113) := by kernel_rfl
theorem Fb27 : BuildOk Try.prog 27 [(0, 1), (1, 1), (2, 1)] [.bool false, (.slice none 0 0), (.slice none 0 0)] (match Try.prog.underlying 27 with | some (.struct f) => f | _ => #[]) ((zeroOf Try.prog 27).getD undef) := ⟨by kernel_rfl, by kernel_rfl, by kernel_rfl, by kernel_rfl, by kernel_rfl⟩
theorem Fs3 : sizeOf' Try.prog 3 = some 1 := by kernel_rfl
theorem Fu3 : Try.prog.underlying 3 = some (.int .i64) := by kernel_rfl
theorem Fu4 : Try.prog.underlying 4 = some .bool := by kernel_rfl
theorem Fs2 : sizeOf' Try.prog 2 = some 1 := by kernel_rfl
theorem Fu2 : Try.prog.underlying 2 = some (.int .i64) := by kernel_rfl
theorem Fl22 : LitOk Try.prog 22 1 3 ((zeroOf Try.prog 3).getD undef) := ⟨by kernel_rfl, by kernel_rfl, by kernel_rfl, by kernel_rfl, by kernel_rfl, by decide⟩
theorem Fe22_22 : ElemOk Try.prog 22 22 1 8 3 3 ((Try.prog.info? 3).getD default) (((Try.prog.info? 3).getD default).zero.getD undef) := ⟨by kernel_rfl, by kernel_rfl, by kernel_rfl, by kernel_rfl, by kernel_rfl, by kernel_rfl, by kernel_rfl, by decide, by kernel_rfl, by decide⟩
theorem Fm23 : MkOk Try.prog 23 8 2 ((Try.prog.info? 2).getD default) (((Try.prog.info? 2).getD default).zero.getD undef) (.int .i64 0) := ⟨by kernel_rfl, by kernel_rfl, by kernel_rfl, by kernel_rfl, by kernel_rfl, by kernel_rfl, by kernel_rfl⟩
theorem Fs23 : sizeOf' Try.prog 23 = some 1 := by kernel_rfl
theorem Fu71 : Try.prog.underlying 71 = some (.map 9 69) := by kernel_rfl
theorem wk18 {wm : Nat} {H : AHeap} {Fr : List Ent}  (v1 : Val)  (v2 : Value) (v3 : Value) (hI : Kn wm H [.fz (rI .i64) v2 v1.Shape, .fz (rI .i64) v3 v1.Data] Fr) {r : Bool} (h0 : M.anamnesislaw06_Great v1 = some r) :
  wpF Try.prog ora wm 18 [.agg #[.bool v1.Char, v2, v3]] H (fun res H => res = .bool r ∧ Kn wm H [] Fr) := by
 unfold M.anamnesislaw06_Great at h0
 refine f_enter (n := 13) Try.func18 rfl (by simp) hI rfl rfl rfl fun tm hS => ?_
 clear hI
 refine c_reg fun R hR => ?_
 refine o_box hS (.inl rfl) rfl rfl rfl (all_cons rfl (all_cons (hS.one (k := 0) rfl (.inl rfl)) (all_cons (hS.one (k := 1) rfl (.inl rfl)) all_nil))) ?_; clear hS H
 intro b1 tm H hS
 refine o_pure hS (.inl rfl) rfl rfl ?_; clear hS
 intro tm hS
 refine o_nil (hR _ _ ?_)
 clear hR R
 refine c_reg fun R hR => ?_
 refine o_pure hS (.inl rfl) rfl rfl ?_; clear hS
 intro tm hS
 refine o_ld1 (k := 0) hS (.inl rfl) rfl rfl rfl (.inl rfl) Fu23 rfl rfl ?_; clear hS
 intro tm hS
 refine o_len (k := 2) (r := (rI .i64)) hS (.inl rfl) rfl rfl rfl (.inl rfl) Fu23 rfl ?_; clear hS
 intro tm hS
 refine o_pure hS (.inl rfl) rfl rfl ?_; clear hS
 intro tm hS
 refine o_pure hS (.inl rfl) rfl rfl ?_; clear hS
 intro tm hS
 obtain ⟨c1, hc1⟩ : ∃ x : Bool, x = ((decide ((v1.Data.length : Int) > 200)) || (decide ((v1.Shape.length : Int) > 8))) := ⟨_, rfl⟩
 refine o_cutN 5 (J := fun tm H => S wm 13 tm H [(12, .bool c1)] [] Fr) ?_ ?_
 ·rcases Bool.eq_false_or_eq_true (decide ((v1.Data.length : Int) > 200)) with hg1 | hg1
  ·refine o_skip hS rfl rfl rfl hg1 ?_; clear hS
   intro tm hS
   refine o_skip hS rfl rfl rfl hg1 ?_; clear hS
   intro tm hS
   refine o_skip hS rfl rfl rfl hg1 ?_; clear hS
   intro tm hS
   refine o_skip hS rfl rfl rfl hg1 ?_; clear hS
   intro tm hS
   refine o_pickT hS (.inl rfl) rfl rfl hg1 rfl ?_; clear hS
   intro tm hS
   have hc1 : c1 = true := hc1.trans (by rw [hg1]; first | rfl | simp)
   subst hc1
   exact o_nil (hS.keep (ka_cons rfl ka_nil) (fun hI => (hI.sub sn)))
  ·refine o_pure hS (.inr ⟨_, _, _, _, rfl, rfl, rfl, hg1⟩) rfl rfl ?_; clear hS
   intro tm hS
   refine o_ld1 (k := 0) hS (.inr ⟨_, _, _, _, rfl, rfl, rfl, hg1⟩) rfl rfl rfl (.inl rfl) Fu22 rfl rfl ?_; clear hS
   intro tm hS
   refine o_len (k := 1) (r := (rI .i64)) hS (.inr ⟨_, _, _, _, rfl, rfl, rfl, hg1⟩) rfl rfl rfl (.inl rfl) Fu22 rfl ?_; clear hS
   intro tm hS
   refine o_pure hS (.inr ⟨_, _, _, _, rfl, rfl, rfl, hg1⟩) rfl rfl ?_; clear hS
   intro tm hS
   refine o_pickF hS (.inl rfl) rfl rfl hg1 rfl ?_; clear hS
   intro tm hS
   have hc1 : c1 = (decide ((v1.Shape.length : Int) > 8)) := hc1.trans (by rw [hg1]; first | rfl | simp)
   subst hc1
   exact o_nil (hS.keep (ka_cons rfl ka_nil) (fun hI => (hI.sub sn)))
 intro tm H hS
 subst hc1
 refine o_pure hS (.inl rfl) rfl rfl ?_; clear hS
 intro tm hS
 refine o_nil (hR _ _ ?_)
 clear hR R
 refine wpC.ret ?_
 obtain rfl := Option.some.inj h0
 refine Exists.intro _ (And.intro (rs_tmp hS rfl rs_nil) ?_)
 have hI := hS.inv
 exact ⟨rfl, (hI.sub sn)⟩
theorem wk44 {wm : Nat} {H : AHeap} {Fr : List Ent} (ho44 : ora 44 = false)    (hI : Kn wm H [] Fr) {r : (List ByteArray)} (h0 : M.anamnesisref01_Dyads = some r) :
  wpF Try.prog ora wm 44 [] H (fun res H => ∃ v2, res = v2 ∧ Kn wm H [.own rS v2 r] Fr) := by
 unfold M.anamnesisref01_Dyads at h0
 refine f_enter (n := 2) Try.func44 rfl (by simp [ho44]) hI rfl rfl rfl fun tm hS => ?_
 clear hI
 refine c_reg fun R hR => ?_
 refine o_pure hS (.inl rfl) rfl rfl ?_; clear hS
 intro tm hS
 refine o_nil (hR _ _ ?_)
 clear hR R
 refine c_reg fun R hR => ?_
 refine o_lit (r := rS) (l := [str_43, str_45, str_195_151, str_195_183, str_42, str_124, str_33, str_226_140_136, str_226_140_138, str_60, str_226_137_164, str_61, str_226_137_165, str_62, str_226_137_160, str_226_136_167, str_226_136_168, str_226_141_178, str_226_141_177]) hS (.inl rfl) rfl Fl24 rfl rfl rfl (.cons rfl (.cons rfl (.cons rfl (.cons rfl (.cons rfl (.cons rfl (.cons rfl (.cons rfl (.cons rfl (.cons rfl (.cons rfl (.cons rfl (.cons rfl (.cons rfl (.cons rfl (.cons rfl (.cons rfl (.cons rfl (.cons rfl .nil))))))))))))))))))) rfl rfl (ri_1 (rd_flat fun _ => rfl) (ri_1 (rd_flat fun _ => rfl) (ri_1 (rd_flat fun _ => rfl) (ri_1 (rd_flat fun _ => rfl) (ri_1 (rd_flat fun _ => rfl) (ri_1 (rd_flat fun _ => rfl) (ri_1 (rd_flat fun _ => rfl) (ri_1 (rd_flat fun _ => rfl) (ri_1 (rd_flat fun _ => rfl) (ri_1 (rd_flat fun _ => rfl) (ri_1 (rd_flat fun _ => rfl) (ri_1 (rd_flat fun _ => rfl) (ri_1 (rd_flat fun _ => rfl) (ri_1 (rd_flat fun _ => rfl) (ri_1 (rd_flat fun _ => rfl) (ri_1 (rd_flat fun _ => rfl) (ri_1 (rd_flat fun _ => rfl) (ri_1 (rd_flat fun _ => rfl) (ri_1 (rd_flat fun _ => rfl) ri_nil))))))))))))))))))) rfl ?_; clear hS H
 intro v1 tm H hS
 refine o_pure hS (.inl rfl) rfl rfl ?_; clear hS
 intro tm hS
 refine o_nil (hR _ _ ?_)
 clear hR R
 refine wpC.ret ?_
 obtain rfl := Option.some.inj h0
 replace hS := hS.litOwn (k := 0) rfl
 refine Exists.intro _ (And.intro (rs_tmp hS rfl rs_nil) ?_)
 have hI := hS.inv
 exact ⟨v1, rfl, (hI.sub (sc sn))⟩
theorem wk120 {wm : Nat} {H : AHeap} {Fr : List Ent} (ho120 : ora 120 = false)    (hI : Kn wm H [] Fr) {r : Unit} (h0 : M.ints_monads = some r) :
  wpF Try.prog ora wm 120 [] H (fun res H => ∃ b, res = .map (some b) ∧ Kn wm H [.raw b (.amap (mapE [(str_43, 135), (str_226_140_136, 135), (str_226_140_138, 135), (str_45, 136), (str_195_151, 137), (str_195_183, 139), (str_42, 140), (str_124, 141), (str_33, 142), (str_126, 143)]))] Fr) := by
 unfold M.ints_monads at h0
 refine f_enter (n := 3) Try.func120 rfl (by simp [ho120]) hI rfl rfl rfl fun tm hS => ?_
 clear hI
 refine c_reg fun R hR => ?_
 refine o_pure hS (.inl rfl) rfl rfl ?_; clear hS
 intro tm hS
 refine o_nil (hR _ _ ?_)
 clear hR R
 refine c_reg fun R hR => ?_
 refine o_mkmap hS (.inl rfl) rfl ?_; clear hS H
 intro b1 tm H hS
 refine o_insert (k := 0) (key := str_43) (l := []) (l' := [(str_43, 135)]) hS (.inl rfl) rfl rfl rfl rfl Fu115 Fu9 (by kernel_rfl) rfl ?_; clear hS; try clear H
 intro H hS
 change S wm 3 _ H _ [.raw b1 (.amap (mapE [(str_43, 135)]))] Fr at hS
 refine o_insert (k := 0) (key := str_226_140_136) (l := [(str_43, 135)]) (l' := [(str_43, 135), (str_226_140_136, 135)]) hS (.inl rfl) rfl rfl rfl rfl Fu115 Fu9 (by kernel_rfl) rfl ?_; clear hS; try clear H
 intro H hS
 change S wm 3 _ H _ [.raw b1 (.amap (mapE [(str_43, 135), (str_226_140_136, 135)]))] Fr at hS
 refine o_insert (k := 0) (key := str_226_140_138) (l := [(str_43, 135), (str_226_140_136, 135)]) (l' := [(str_43, 135), (str_226_140_136, 135), (str_226_140_138, 135)]) hS (.inl rfl) rfl rfl rfl rfl Fu115 Fu9 (by kernel_rfl) rfl ?_; clear hS; try clear H
 intro H hS
 change S wm 3 _ H _ [.raw b1 (.amap (mapE [(str_43, 135), (str_226_140_136, 135), (str_226_140_138, 135)]))] Fr at hS
 refine o_insert (k := 0) (key := str_45) (l := [(str_43, 135), (str_226_140_136, 135), (str_226_140_138, 135)]) (l' := [(str_43, 135), (str_226_140_136, 135), (str_226_140_138, 135), (str_45, 136)]) hS (.inl rfl) rfl rfl rfl rfl Fu115 Fu9 (by kernel_rfl) rfl ?_; clear hS; try clear H
 intro H hS
 change S wm 3 _ H _ [.raw b1 (.amap (mapE [(str_43, 135), (str_226_140_136, 135), (str_226_140_138, 135), (str_45, 136)]))] Fr at hS
 refine o_insert (k := 0) (key := str_195_151) (l := [(str_43, 135), (str_226_140_136, 135), (str_226_140_138, 135), (str_45, 136)]) (l' := [(str_43, 135), (str_226_140_136, 135), (str_226_140_138, 135), (str_45, 136), (str_195_151, 137)]) hS (.inl rfl) rfl rfl rfl rfl Fu115 Fu9 (by kernel_rfl) rfl ?_; clear hS; try clear H
 intro H hS
 change S wm 3 _ H _ [.raw b1 (.amap (mapE [(str_43, 135), (str_226_140_136, 135), (str_226_140_138, 135), (str_45, 136), (str_195_151, 137)]))] Fr at hS
 refine o_insert (k := 0) (key := str_195_183) (l := [(str_43, 135), (str_226_140_136, 135), (str_226_140_138, 135), (str_45, 136), (str_195_151, 137)]) (l' := [(str_43, 135), (str_226_140_136, 135), (str_226_140_138, 135), (str_45, 136), (str_195_151, 137), (str_195_183, 139)]) hS (.inl rfl) rfl rfl rfl rfl Fu115 Fu9 (by kernel_rfl) rfl ?_; clear hS; try clear H
 intro H hS
 change S wm 3 _ H _ [.raw b1 (.amap (mapE [(str_43, 135), (str_226_140_136, 135), (str_226_140_138, 135), (str_45, 136), (str_195_151, 137), (str_195_183, 139)]))] Fr at hS
 refine o_insert (k := 0) (key := str_42) (l := [(str_43, 135), (str_226_140_136, 135), (str_226_140_138, 135), (str_45, 136), (str_195_151, 137), (str_195_183, 139)]) (l' := [(str_43, 135), (str_226_140_136, 135), (str_226_140_138, 135), (str_45, 136), (str_195_151, 137), (str_195_183, 139), (str_42, 140)]) hS (.inl rfl) rfl rfl rfl rfl Fu115 Fu9 (by kernel_rfl) rfl ?_; clear hS; try clear H
 intro H hS
 change S wm 3 _ H _ [.raw b1 (.amap (mapE [(str_43, 135), (str_226_140_136, 135), (str_226_140_138, 135), (str_45, 136), (str_195_151, 137), (str_195_183, 139), (str_42, 140)]))] Fr at hS
 refine o_insert (k := 0) (key := str_124) (l := [(str_43, 135), (str_226_140_136, 135), (str_226_140_138, 135), (str_45, 136), (str_195_151, 137), (str_195_183, 139), (str_42, 140)]) (l' := [(str_43, 135), (str_226_140_136, 135), (str_226_140_138, 135), (str_45, 136), (str_195_151, 137), (str_195_183, 139), (str_42, 140), (str_124, 141)]) hS (.inl rfl) rfl rfl rfl rfl Fu115 Fu9 (by kernel_rfl) rfl ?_; clear hS; try clear H
 intro H hS
 change S wm 3 _ H _ [.raw b1 (.amap (mapE [(str_43, 135), (str_226_140_136, 135), (str_226_140_138, 135), (str_45, 136), (str_195_151, 137), (str_195_183, 139), (str_42, 140), (str_124, 141)]))] Fr at hS
 refine o_insert (k := 0) (key := str_33) (l := [(str_43, 135), (str_226_140_136, 135), (str_226_140_138, 135), (str_45, 136), (str_195_151, 137), (str_195_183, 139), (str_42, 140), (str_124, 141)]) (l' := [(str_43, 135), (str_226_140_136, 135), (str_226_140_138, 135), (str_45, 136), (str_195_151, 137), (str_195_183, 139), (str_42, 140), (str_124, 141), (str_33, 142)]) hS (.inl rfl) rfl rfl rfl rfl Fu115 Fu9 (by kernel_rfl) rfl ?_; clear hS; try clear H
 intro H hS
 change S wm 3 _ H _ [.raw b1 (.amap (mapE [(str_43, 135), (str_226_140_136, 135), (str_226_140_138, 135), (str_45, 136), (str_195_151, 137), (str_195_183, 139), (str_42, 140), (str_124, 141), (str_33, 142)]))] Fr at hS
 refine o_insert (k := 0) (key := str_126) (l := [(str_43, 135), (str_226_140_136, 135), (str_226_140_138, 135), (str_45, 136), (str_195_151, 137), (str_195_183, 139), (str_42, 140), (str_124, 141), (str_33, 142)]) (l' := [(str_43, 135), (str_226_140_136, 135), (str_226_140_138, 135), (str_45, 136), (str_195_151, 137), (str_195_183, 139), (str_42, 140), (str_124, 141), (str_33, 142), (str_126, 143)]) hS (.inl rfl) rfl rfl rfl rfl Fu115 Fu9 (by kernel_rfl) rfl ?_; clear hS; try clear H
 intro H hS
 change S wm 3 _ H _ [.raw b1 (.amap (mapE [(str_43, 135), (str_226_140_136, 135), (str_226_140_138, 135), (str_45, 136), (str_195_151, 137), (str_195_183, 139), (str_42, 140), (str_124, 141), (str_33, 142), (str_126, 143)]))] Fr at hS
 refine o_pure hS (.inl rfl) rfl rfl ?_; clear hS
 intro tm hS
 refine o_pure hS (.inl rfl) rfl rfl ?_; clear hS
 intro tm hS
 refine o_nil (hR _ _ ?_)
 clear hR R
 refine wpC.ret ?_
 obtain rfl := Option.some.inj h0
 refine Exists.intro _ (And.intro (rs_tmp hS rfl rs_nil) ?_)
 have hI := hS.inv
 exact ⟨b1, rfl, (hI.sub (sc sn))⟩
theorem wk135 {wm : Nat} {H : AHeap} {Fr : List Ent}  (b1 : Int)   (hI : Kn wm H [] Fr) {r : Int × Bool} (h0 : M.ints_same b1 = some r) :
  wpF Try.prog ora wm 135 [.int .i64 b1] H (fun res H => res = .tuple #[.int .i64 r.1, .bool r.2] ∧ Kn wm H [] Fr) := by
 unfold M.ints_same at h0
 refine f_enter (n := 5) Try.func135 rfl (by simp) hI rfl rfl rfl fun tm hS => ?_
 clear hI
 refine c_reg fun R hR => ?_
 refine o_pure hS (.inl rfl) rfl rfl ?_; clear hS
 intro tm hS
 refine o_pure hS (.inl rfl) rfl rfl ?_; clear hS
 intro tm hS
 refine o_nil (hR _ _ ?_)
 clear hR R
 refine c_reg fun R hR => ?_
 refine o_pure hS (.inl rfl) rfl rfl ?_; clear hS
 intro tm hS
 refine o_pure hS (.inl rfl) rfl rfl ?_; clear hS
 intro tm hS
 refine o_pure hS (.inl rfl) rfl rfl ?_; clear hS
 intro tm hS
 refine o_nil (hR _ _ ?_)
 clear hR R
 refine wpC.ret ?_
 obtain rfl := Option.some.inj h0
 refine Exists.intro _ (And.intro (rs_tmp hS rfl (rs_tmp hS rfl rs_nil)) ?_)
 have hI := hS.inv
 exact ⟨rfl, (hI.sub sn)⟩
theorem wk53 {wm : Nat} {H : AHeap} {Fr : List Ent}  (c1 : Int) (ok1 : Bool)   (hI : Kn wm H [] Fr) {r : Int × Int} (h0 : M.ints_told c1 ok1 = some r) :
  wpF Try.prog ora wm 53 [.int .i64 c1, .bool ok1] H (fun res H => res = .tuple #[.int .i64 r.1, .int .i64 r.2] ∧ Kn wm H [] Fr) := by
 unfold M.ints_told at h0
 refine f_enter (n := 9) Try.func53 rfl (by simp) hI rfl rfl rfl fun tm hS => ?_
 clear hI
 refine c_reg fun R hR => ?_
 refine o_pure hS (.inl rfl) rfl rfl ?_; clear hS
 intro tm hS
 refine o_pure hS (.inl rfl) rfl rfl ?_; clear hS
 intro tm hS
 refine o_nil (hR _ _ ?_)
 clear hR R
 refine c_seqS ?_
 refine c_reg fun R hR => ?_
 refine o_pure hS (.inl rfl) rfl rfl ?_; clear hS
 intro tm hS
 refine o_pure hS (.inl rfl) rfl rfl ?_; clear hS
 intro tm hS
 refine o_nil (hR _ _ ?_)
 clear hR R
 refine c_cond hS rfl (fun hc => ?_) (fun hc => ?_)
 ·replace h0 := iteT hc h0
  refine c_reg fun R hR => ?_
  refine o_pure hS (.inl rfl) rfl rfl ?_; clear hS
  intro tm hS
  refine o_pure hS (.inl rfl) rfl rfl ?_; clear hS
  intro tm hS
  refine o_nil (hR _ _ ?_)
  clear hR R
  refine wpC.ret ?_
  obtain rfl := Option.some.inj h0
  refine Exists.intro _ (And.intro (rs_tmp hS rfl (rs_tmp hS rfl rs_nil)) ?_)
  have hI := hS.inv
  exact ⟨rfl, (hI.sub sn)⟩
 ·replace h0 := iteF hc h0
  refine wpC.skip ?_
  refine c_reg fun R hR => ?_
  refine o_pure hS (.inl rfl) rfl rfl ?_; clear hS
  intro tm hS
  refine o_pure hS (.inl rfl) rfl rfl ?_; clear hS
  intro tm hS
  refine o_pure hS (.inl rfl) rfl rfl ?_; clear hS
  intro tm hS
  refine o_nil (hR _ _ ?_)
  clear hR R
  refine wpC.ret ?_
  obtain rfl := Option.some.inj h0
  refine Exists.intro _ (And.intro (rs_tmp hS rfl (rs_tmp hS rfl rs_nil)) ?_)
  have hI := hS.inv
  exact ⟨rfl, (hI.sub sn)⟩
theorem wk136 {wm : Nat} {H : AHeap} {Fr : List Ent}  (b1 : Int)   (hI : Kn wm H [] Fr) {r : Int × Bool} (h0 : M.ints_monads_1 b1 = some r) :
  wpF Try.prog ora wm 136 [.int .i64 b1] H (fun res H => res = .tuple #[.int .i64 r.1, .bool r.2] ∧ Kn wm H [] Fr) := by
 unfold M.ints_monads_1 at h0
 refine f_enter (n := 8) Try.func136 rfl (by simp) hI rfl rfl rfl fun tm hS => ?_
 clear hI
 refine c_reg fun R hR => ?_
 refine o_pure hS (.inl rfl) rfl rfl ?_; clear hS
 intro tm hS
 refine o_pure hS (.inl rfl) rfl rfl ?_; clear hS
 intro tm hS
 refine o_nil (hR _ _ ?_)
 clear hR R
 refine c_reg fun R hR => ?_
 refine o_pure hS (.inl rfl) rfl rfl ?_; clear hS
 intro tm hS
 refine o_pure hS (.inl rfl) rfl rfl ?_; clear hS
 intro tm hS
 refine o_pure hS (.inl rfl) rfl rfl ?_; clear hS
 intro tm hS
 refine o_pure hS (.inl rfl) rfl rfl ?_; clear hS
 intro tm hS
 refine o_pure hS (.inl rfl) rfl rfl ?_; clear hS
 intro tm hS
 refine o_pure hS (.inl rfl) rfl rfl ?_; clear hS
 intro tm hS
 refine o_nil (hR _ _ ?_)
 clear hR R
 refine wpC.ret ?_
 obtain rfl := Option.some.inj h0
 refine Exists.intro _ (And.intro (rs_tmp hS rfl (rs_tmp hS rfl rs_nil)) ?_)
 have hI := hS.inv
 exact ⟨rfl, (hI.sub sn)⟩
theorem wk138 {wm : Nat} {H : AHeap} {Fr : List Ent}  (b1 : Int)   (hI : Kn wm H [] Fr) {r : Int} (h0 : M.ints_sign b1 = some r) :
  wpF Try.prog ora wm 138 [.int .i64 b1] H (fun res H => res = .int .i64 r ∧ Kn wm H [] Fr) := by
 unfold M.ints_sign at h0
 refine f_enter (n := 9) Try.func138 rfl (by simp) hI rfl rfl rfl fun tm hS => ?_
 clear hI
 refine c_reg fun R hR => ?_
 refine o_pure hS (.inl rfl) rfl rfl ?_; clear hS
 intro tm hS
 refine o_nil (hR _ _ ?_)
 clear hR R
 refine c_seqS ?_
 refine wpC.block ?_
 refine c_reg fun R hR => ?_
 refine o_pure hS (.inl rfl) rfl rfl ?_; clear hS
 intro tm hS
 refine o_pure hS (.inl rfl) rfl rfl ?_; clear hS
 intro tm hS
 refine o_pure hS (.inl rfl) rfl rfl ?_; clear hS
 intro tm hS
 refine o_nil (hR _ _ ?_)
 clear hR R
 refine c_cond hS rfl (fun hc => ?_) (fun hc => ?_)
 ·replace h0 := iteT hc h0
  refine c_reg fun R hR => ?_
  refine o_pure hS (.inl rfl) rfl rfl ?_; clear hS
  intro tm hS
  refine o_nil (hR _ _ ?_)
  clear hR R
  refine wpC.ret ?_
  obtain rfl := Option.some.inj h0
  refine Exists.intro _ (And.intro (rs_tmp hS rfl rs_nil) ?_)
  have hI := hS.inv
  exact ⟨rfl, (hI.sub sn)⟩
 ·replace h0 := iteF hc h0
  refine c_reg fun R hR => ?_
  refine o_pure hS (.inl rfl) rfl rfl ?_; clear hS
  intro tm hS
  refine o_pure hS (.inl rfl) rfl rfl ?_; clear hS
  intro tm hS
  refine o_pure hS (.inl rfl) rfl rfl ?_; clear hS
  intro tm hS
  refine o_nil (hR _ _ ?_)
  clear hR R
  refine c_cond hS rfl (fun hc => ?_) (fun hc => ?_)
  ·replace h0 := iteT hc h0
   refine c_reg fun R hR => ?_
   refine o_pure hS (.inl rfl) rfl rfl ?_; clear hS
   intro tm hS
   refine o_nil (hR _ _ ?_)
   clear hR R
   refine wpC.ret ?_
   obtain rfl := Option.some.inj h0
   refine Exists.intro _ (And.intro (rs_tmp hS rfl rs_nil) ?_)
   have hI := hS.inv
   exact ⟨rfl, (hI.sub sn)⟩
  ·replace h0 := iteF hc h0
   refine wpC.skip ?_
   refine c_reg fun R hR => ?_
   refine o_pure hS (.inl rfl) rfl rfl ?_; clear hS
   intro tm hS
   refine o_nil (hR _ _ ?_)
   clear hR R
   refine wpC.ret ?_
   obtain rfl := Option.some.inj h0
   refine Exists.intro _ (And.intro (rs_tmp hS rfl rs_nil) ?_)
   have hI := hS.inv
   exact ⟨rfl, (hI.sub sn)⟩
theorem wk137 {wm : Nat} {H : AHeap} {Fr : List Ent}  (b1 : Int)   (hI : Kn wm H [] Fr) {r : Int × Bool} (h0 : M.ints_monads_2 b1 = some r) :
  wpF Try.prog ora wm 137 [.int .i64 b1] H (fun res H => res = .tuple #[.int .i64 r.1, .bool r.2] ∧ Kn wm H [] Fr) := by
 unfold M.ints_monads_2 at h0
 refine f_enter (n := 6) Try.func137 rfl (by simp) hI rfl rfl rfl fun tm hS => ?_
 clear hI
 refine c_reg fun R hR => ?_
 refine o_pure hS (.inl rfl) rfl rfl ?_; clear hS
 intro tm hS
 refine o_pure hS (.inl rfl) rfl rfl ?_; clear hS
 intro tm hS
 refine o_nil (hR _ _ ?_)
 clear hR R
 refine c_reg fun R hR => ?_
 refine o_pure hS (.inl rfl) rfl rfl ?_; clear hS
 intro tm hS
 obtain ⟨r1, hx1, h0⟩ := bindS h0
 refine o_call hS (.inl rfl) rfl (fun wm' hw1 hw2 => wk138  b1   (hS.sel hw2) hx1) (fun wm' res H hw' hp => ?_)
 obtain ⟨hres, hI⟩ := hp
 replace hres := hres.symm; subst hres
 replace hS : S wm 6 _ H ((5, .int .i64 r1) :: _) ([] ++ _) Fr := hS.after rfl hw' hI
 clear hI hw'
 refine o_pure hS (.inl rfl) rfl rfl ?_; clear hS
 intro tm hS
 refine o_pure hS (.inl rfl) rfl rfl ?_; clear hS
 intro tm hS
 refine o_nil (hR _ _ ?_)
 clear hR R
 refine wpC.ret ?_
 obtain rfl := Option.some.inj h0
 refine Exists.intro _ (And.intro (rs_tmp hS rfl (rs_tmp hS rfl rs_nil)) ?_)
 have hI := hS.inv
 exact ⟨rfl, (hI.sub sn)⟩
theorem wk139 {wm : Nat} {H : AHeap} {Fr : List Ent}  (b1 : Int)   (hI : Kn wm H [] Fr) {r : Int × Bool} (h0 : M.ints_monads_3 b1 = some r) :
  wpF Try.prog ora wm 139 [.int .i64 b1] H (fun res H => res = .tuple #[.int .i64 r.1, .bool r.2] ∧ Kn wm H [] Fr) := by
 unfold M.ints_monads_3 at h0
 refine f_enter (n := 11) Try.func139 rfl (by simp) hI rfl rfl rfl fun tm hS => ?_
 clear hI
 refine c_reg fun R hR => ?_
 refine o_pure hS (.inl rfl) rfl rfl ?_; clear hS
 intro tm hS
 refine o_pure hS (.inl rfl) rfl rfl ?_; clear hS
 intro tm hS
 refine o_nil (hR _ _ ?_)
 clear hR R
 refine c_reg fun R hR => ?_
 refine o_pure hS (.inl rfl) rfl rfl ?_; clear hS
 intro tm hS
 refine o_pure hS (.inl rfl) rfl rfl ?_; clear hS
 intro tm hS
 refine o_pure hS (.inl rfl) rfl rfl ?_; clear hS
 intro tm hS
 refine o_pure hS (.inl rfl) rfl rfl ?_; clear hS
 intro tm hS
 obtain ⟨c1, hc1⟩ : ∃ x : Bool, x = ((b1 == 1) || (b1 == (-1))) := ⟨_, rfl⟩
 refine o_cutN 3 (J := fun tm H => S wm 11 tm H [(10, .bool c1), (4, .int .i64 b1)] [] Fr) ?_ ?_
 ·rcases Bool.eq_false_or_eq_true (b1 == 1) with hg1 | hg1
  ·refine o_skip hS rfl rfl rfl hg1 ?_; clear hS
   intro tm hS
   refine o_skip hS rfl rfl rfl hg1 ?_; clear hS
   intro tm hS
   refine o_pickT hS (.inl rfl) rfl rfl hg1 rfl ?_; clear hS
   intro tm hS
   have hc1 : c1 = true := hc1.trans (by rw [hg1]; first | rfl | simp)
   subst hc1
   exact o_nil (hS.keep (ka_cons rfl (ka_cons rfl ka_nil)) (fun hI => (hI.sub sn)))
  ·refine o_pure hS (.inr ⟨_, _, _, _, rfl, rfl, rfl, hg1⟩) rfl rfl ?_; clear hS
   intro tm hS
   refine o_pure hS (.inr ⟨_, _, _, _, rfl, rfl, rfl, hg1⟩) rfl rfl ?_; clear hS
   intro tm hS
   refine o_pickF hS (.inl rfl) rfl rfl hg1 rfl ?_; clear hS
   intro tm hS
   have hc1 : c1 = (b1 == (-1)) := hc1.trans (by rw [hg1]; first | rfl | simp)
   subst hc1
   exact o_nil (hS.keep (ka_cons rfl (ka_cons rfl ka_nil)) (fun hI => (hI.sub sn)))
 intro tm H hS
 subst hc1
 refine o_pure hS (.inl rfl) rfl rfl ?_; clear hS
 intro tm hS
 refine o_pure hS (.inl rfl) rfl rfl ?_; clear hS
 intro tm hS
 refine o_nil (hR _ _ ?_)
 clear hR R
 refine wpC.ret ?_
 obtain rfl := Option.some.inj h0
 refine Exists.intro _ (And.intro (rs_tmp hS rfl (rs_tmp hS rfl rs_nil)) ?_)
 have hI := hS.inv
 exact ⟨rfl, (hI.sub sn)⟩
theorem wk140 {wm : Nat} {H : AHeap} {Fr : List Ent}  (b1 : Int)   (hI : Kn wm H [] Fr) {r : Int × Bool} (h0 : M.ints_monads_4 b1 = some r) :
  wpF Try.prog ora wm 140 [.int .i64 b1] H (fun res H => res = .tuple #[.int .i64 r.1, .bool r.2] ∧ Kn wm H [] Fr) := by
 unfold M.ints_monads_4 at h0
 refine f_enter (n := 6) Try.func140 rfl (by simp) hI rfl rfl rfl fun tm hS => ?_
 clear hI
 refine c_reg fun R hR => ?_
 refine o_pure hS (.inl rfl) rfl rfl ?_; clear hS
 intro tm hS
 refine o_pure hS (.inl rfl) rfl rfl ?_; clear hS
 intro tm hS
 refine o_nil (hR _ _ ?_)
 clear hR R
 refine c_reg fun R hR => ?_
 refine o_pure hS (.inl rfl) rfl rfl ?_; clear hS
 intro tm hS
 refine o_pure hS (.inl rfl) rfl rfl ?_; clear hS
 intro tm hS
 refine o_pure hS (.inl rfl) rfl rfl ?_; clear hS
 intro tm hS
 refine o_pure hS (.inl rfl) rfl rfl ?_; clear hS
 intro tm hS
 refine o_nil (hR _ _ ?_)
 clear hR R
 refine wpC.ret ?_
 obtain rfl := Option.some.inj h0
 refine Exists.intro _ (And.intro (rs_tmp hS rfl (rs_tmp hS rfl rs_nil)) ?_)
 have hI := hS.inv
 exact ⟨rfl, (hI.sub sn)⟩
theorem wk141 {wm : Nat} {H : AHeap} {Fr : List Ent}  (b1 : Int)   (hI : Kn wm H [] Fr) {r : Int × Bool} (h0 : M.ints_monads_5 b1 = some r) :
  wpF Try.prog ora wm 141 [.int .i64 b1] H (fun res H => res = .tuple #[.int .i64 r.1, .bool r.2] ∧ Kn wm H [] Fr) := by
 unfold M.ints_monads_5 at h0
 refine f_enter (n := 10) Try.func141 rfl (by simp) hI rfl rfl rfl fun tm hS => ?_
 clear hI
 refine c_reg fun R hR => ?_
 refine o_pure hS (.inl rfl) rfl rfl ?_; clear hS
 intro tm hS
 refine o_pure hS (.inl rfl) rfl rfl ?_; clear hS
 intro tm hS
 refine o_nil (hR _ _ ?_)
 clear hR R
 refine c_reg fun R hR => ?_
 refine o_pure hS (.inl rfl) rfl rfl ?_; clear hS
 intro tm hS
 refine o_pure hS (.inl rfl) rfl rfl ?_; clear hS
 intro tm hS
 refine o_pure hS (.inl rfl) rfl rfl ?_; clear hS
 intro tm hS
 refine o_pure hS (.inl rfl) rfl rfl ?_; clear hS
 intro tm hS
 refine o_pure hS (.inl rfl) rfl rfl ?_; clear hS
 intro tm hS
 refine o_pure hS (.inl rfl) rfl rfl ?_; clear hS
 intro tm hS
 refine o_pure hS (.inl rfl) rfl rfl ?_; clear hS
 intro tm hS
 refine o_pure hS (.inl rfl) rfl rfl ?_; clear hS
 intro tm hS
 refine o_nil (hR _ _ ?_)
 clear hR R
 refine wpC.ret ?_
 obtain rfl := Option.some.inj h0
 refine Exists.intro _ (And.intro (rs_tmp hS rfl (rs_tmp hS rfl rs_nil)) ?_)
 have hI := hS.inv
 exact ⟨rfl, (hI.sub sn)⟩
theorem wk142 {wm : Nat} {H : AHeap} {Fr : List Ent}  (b1 : Int)   (hI : Kn wm H [] Fr) {r : Int × Bool} (h0 : M.ints_factorial b1 = some r) :
  wpF Try.prog ora wm 142 [.int .i64 b1] H (fun res H => res = .tuple #[.int .i64 r.1, .bool r.2] ∧ Kn wm H [] Fr) := by
 unfold M.ints_factorial at h0
 refine f_enter (n := 21) Try.func142 rfl (by simp) hI rfl rfl rfl fun tm hS => ?_
 clear hI
 refine c_reg fun R hR => ?_
 refine o_pure hS (.inl rfl) rfl rfl ?_; clear hS
 intro tm hS
 refine o_pure hS (.inl rfl) rfl rfl ?_; clear hS
 intro tm hS
 refine o_nil (hR _ _ ?_)
 clear hR R
 refine c_seqS ?_
 refine c_reg fun R hR => ?_
 refine o_pure hS (.inl rfl) rfl rfl ?_; clear hS
 intro tm hS
 refine o_pure hS (.inl rfl) rfl rfl ?_; clear hS
 intro tm hS
 refine o_pure hS (.inl rfl) rfl rfl ?_; clear hS
 intro tm hS
 obtain ⟨c1, hc1⟩ : ∃ x : Bool, x = ((decide (b1 < 0)) || (decide (b1 > 20))) := ⟨_, rfl⟩
 refine o_cutN 3 (J := fun tm H => S wm 21 tm H [(11, .bool c1), (0, .int .i64 b1)] [] Fr) ?_ ?_
 ·rcases Bool.eq_false_or_eq_true (decide (b1 < 0)) with hg1 | hg1
  ·refine o_skip hS rfl rfl rfl hg1 ?_; clear hS
   intro tm hS
   refine o_skip hS rfl rfl rfl hg1 ?_; clear hS
   intro tm hS
   refine o_pickT hS (.inl rfl) rfl rfl hg1 rfl ?_; clear hS
   intro tm hS
   have hc1 : c1 = true := hc1.trans (by rw [hg1]; first | rfl | simp)
   subst hc1
   exact o_nil (hS.keep (ka_cons rfl (ka_cons rfl ka_nil)) (fun hI => (hI.sub sn)))
  ·refine o_pure hS (.inr ⟨_, _, _, _, rfl, rfl, rfl, hg1⟩) rfl rfl ?_; clear hS
   intro tm hS
   refine o_pure hS (.inr ⟨_, _, _, _, rfl, rfl, rfl, hg1⟩) rfl rfl ?_; clear hS
   intro tm hS
   refine o_pickF hS (.inl rfl) rfl rfl hg1 rfl ?_; clear hS
   intro tm hS
   have hc1 : c1 = (decide (b1 > 20)) := hc1.trans (by rw [hg1]; first | rfl | simp)
   subst hc1
   exact o_nil (hS.keep (ka_cons rfl (ka_cons rfl ka_nil)) (fun hI => (hI.sub sn)))
 intro tm H hS
 subst hc1
 refine o_nil (hR _ _ ?_)
 clear hR R
 refine c_cond hS rfl (fun hc => ?_) (fun hc => ?_)
 ·replace h0 := iteT hc h0
  refine c_reg fun R hR => ?_
  refine o_pure hS (.inl rfl) rfl rfl ?_; clear hS
  intro tm hS
  refine o_pure hS (.inl rfl) rfl rfl ?_; clear hS
  intro tm hS
  refine o_nil (hR _ _ ?_)
  clear hR R
  refine wpC.ret ?_
  obtain rfl := Option.some.inj h0
  refine Exists.intro _ (And.intro (rs_tmp hS rfl (rs_tmp hS rfl rs_nil)) ?_)
  have hI := hS.inv
  exact ⟨rfl, (hI.sub sn)⟩
 ·replace h0 := iteF hc h0
  refine wpC.skip ?_
  refine c_reg fun R hR => ?_
  refine o_pure hS (.inl rfl) rfl rfl ?_; clear hS
  intro tm hS
  refine o_nil (hR _ _ ?_)
  clear hR R
  refine c_seqS ?_
  refine c_reg fun R hR => ?_
  refine o_pure hS (.inl rfl) rfl rfl ?_; clear hS
  intro tm hS
  refine o_nil (hR _ _ ?_)
  clear hR R
  obtain ⟨k1, hw1, h0⟩ := bindS h0
  refine wpC.block ?_
  refine c_loop (I := fun (s : Int × Int) tm H => match (generalizing := false) s with | (c2, i1) => S wm 21 tm H [(0, .int .i64 b1), (4, .int .i64 c2), (5, .int .i64 i1)] [] Fr) hw1 (by change S wm 21 _ _ _ _ Fr; exact hS.keep (ka_cons rfl (ka_cons rfl (ka_cons rfl ka_nil))) (fun hI => (hI.sub sn))) ?_
  clear hS
  intro s1 tm H c3 hS h1 hq1
  obtain ⟨c2, i1⟩ := s1
  change S wm 21 tm H [(0, .int .i64 b1), (4, .int .i64 c2), (5, .int .i64 i1)] [] Fr at hS
  refine c_seqS ?_
  refine c_reg fun R hR => ?_
  refine o_pure hS (.inl rfl) rfl rfl ?_; clear hS
  intro tm hS
  refine o_pure hS (.inl rfl) rfl rfl ?_; clear hS
  intro tm hS
  refine o_pure hS (.inl rfl) rfl rfl ?_; clear hS
  intro tm hS
  refine o_nil (hR _ _ ?_)
  clear hR R
  refine c_cond hS rfl (fun hc => ?_) (fun hc => ?_)
  ·replace h1 := iteT hc h1
   refine wpC.skip ?_
   refine c_seqS ?_
   refine wpC.block ?_
   refine c_reg1 fun R hR => ?_
   refine o_pure hS (.inl rfl) rfl rfl ?_; clear hS
   intro tm hS
   refine o_pure hS (.inl rfl) rfl rfl ?_; clear hS
   intro tm hS
   refine o_pure hS (.inl rfl) rfl rfl ?_; clear hS
   intro tm hS
   refine o_pure hS (.inl rfl) rfl rfl ?_; clear hS
   intro tm hS
   refine o_nil (hR _ _ ?_)
   clear hR R
   refine c_reg1 fun R hR => ?_
   refine o_pure hS (.inl rfl) rfl rfl ?_; clear hS
   intro tm hS
   refine o_pure hS (.inl rfl) rfl rfl ?_; clear hS
   intro tm hS
   refine o_pure hS (.inl rfl) rfl rfl ?_; clear hS
   intro tm hS
   refine o_nil (hR _ _ ?_)
   clear hR R
   obtain rfl := Option.some.inj h1
   refine ⟨_, rfl, ?_⟩
   change S wm 21 _ _ _ _ Fr; exact hS.keep (ka_cons rfl (ka_cons rfl (ka_cons rfl ka_nil))) (fun hI => (hI.sub sn))
  ·replace h1 := iteF hc h1
   refine wpC.exit ?_
   refine seqX ?_
   obtain rfl := Option.some.inj h1
   obtain rfl := hq1 _ rfl
   refine And.intro rfl (blk_eq ?_)
   replace h0 := joinN h0
   refine c_reg fun R hR => ?_
   refine o_pure hS (.inl rfl) rfl rfl ?_; clear hS
   intro tm hS
   refine o_pure hS (.inl rfl) rfl rfl ?_; clear hS
   intro tm hS
   refine o_pure hS (.inl rfl) rfl rfl ?_; clear hS
   intro tm hS
   refine o_nil (hR _ _ ?_)
   clear hR R
   refine wpC.ret ?_
   obtain rfl := Option.some.inj h0
   refine Exists.intro _ (And.intro (rs_tmp hS rfl (rs_tmp hS rfl rs_nil)) ?_)
   have hI := hS.inv
   exact ⟨rfl, (hI.sub sn)⟩
theorem wk101 {wm : Nat} {H : AHeap} {Fr : List Ent}  (b1 : Int)   (hI : Kn wm H [] Fr) {r : Bool} (h0 : M.ints_bit b1 = some r) :
  wpF Try.prog ora wm 101 [.int .i64 b1] H (fun res H => res = .bool r ∧ Kn wm H [] Fr) := by
 unfold M.ints_bit at h0
 refine f_enter (n := 9) Try.func101 rfl (by simp) hI rfl rfl rfl fun tm hS => ?_
 clear hI
 refine c_reg fun R hR => ?_
 refine o_pure hS (.inl rfl) rfl rfl ?_; clear hS
 intro tm hS
 refine o_nil (hR _ _ ?_)
 clear hR R
 refine c_reg fun R hR => ?_
 refine o_pure hS (.inl rfl) rfl rfl ?_; clear hS
 intro tm hS
 refine o_pure hS (.inl rfl) rfl rfl ?_; clear hS
 intro tm hS
 refine o_pure hS (.inl rfl) rfl rfl ?_; clear hS
 intro tm hS
 obtain ⟨c1, hc1⟩ : ∃ x : Bool, x = ((b1 == 0) || (b1 == 1)) := ⟨_, rfl⟩
 refine o_cutN 3 (J := fun tm H => S wm 9 tm H [(8, .bool c1)] [] Fr) ?_ ?_
 ·rcases Bool.eq_false_or_eq_true (b1 == 0) with hg1 | hg1
  ·refine o_skip hS rfl rfl rfl hg1 ?_; clear hS
   intro tm hS
   refine o_skip hS rfl rfl rfl hg1 ?_; clear hS
   intro tm hS
   refine o_pickT hS (.inl rfl) rfl rfl hg1 rfl ?_; clear hS
   intro tm hS
   have hc1 : c1 = true := hc1.trans (by rw [hg1]; first | rfl | simp)
   subst hc1
   exact o_nil (hS.keep (ka_cons rfl ka_nil) (fun hI => (hI.sub sn)))
  ·refine o_pure hS (.inr ⟨_, _, _, _, rfl, rfl, rfl, hg1⟩) rfl rfl ?_; clear hS
   intro tm hS
   refine o_pure hS (.inr ⟨_, _, _, _, rfl, rfl, rfl, hg1⟩) rfl rfl ?_; clear hS
   intro tm hS
   refine o_pickF hS (.inl rfl) rfl rfl hg1 rfl ?_; clear hS
   intro tm hS
   have hc1 : c1 = (b1 == 1) := hc1.trans (by rw [hg1]; first | rfl | simp)
   subst hc1
   exact o_nil (hS.keep (ka_cons rfl ka_nil) (fun hI => (hI.sub sn)))
 intro tm H hS
 subst hc1
 refine o_pure hS (.inl rfl) rfl rfl ?_; clear hS
 intro tm hS
 refine o_nil (hR _ _ ?_)
 clear hR R
 refine wpC.ret ?_
 obtain rfl := Option.some.inj h0
 refine Exists.intro _ (And.intro (rs_tmp hS rfl rs_nil) ?_)
 have hI := hS.inv
 exact ⟨rfl, (hI.sub sn)⟩
theorem wk143 {wm : Nat} {H : AHeap} {Fr : List Ent}  (b1 : Int)   (hI : Kn wm H [] Fr) {r : Int × Bool} (h0 : M.ints_monads_6 b1 = some r) :
  wpF Try.prog ora wm 143 [.int .i64 b1] H (fun res H => res = .tuple #[.int .i64 r.1, .bool r.2] ∧ Kn wm H [] Fr) := by
 unfold M.ints_monads_6 at h0
 refine f_enter (n := 8) Try.func143 rfl (by simp) hI rfl rfl rfl fun tm hS => ?_
 clear hI
 refine c_reg fun R hR => ?_
 refine o_pure hS (.inl rfl) rfl rfl ?_; clear hS
 intro tm hS
 refine o_pure hS (.inl rfl) rfl rfl ?_; clear hS
 intro tm hS
 refine o_nil (hR _ _ ?_)
 clear hR R
 refine c_reg fun R hR => ?_
 refine o_pure hS (.inl rfl) rfl rfl ?_; clear hS
 intro tm hS
 refine o_pure hS (.inl rfl) rfl rfl ?_; clear hS
 intro tm hS
 refine o_pure hS (.inl rfl) rfl rfl ?_; clear hS
 intro tm hS
 obtain ⟨r1, hx1, h0⟩ := bindS h0
 refine o_call hS (.inl rfl) rfl (fun wm' hw1 hw2 => wk101  b1   (hS.sel hw2) hx1) (fun wm' res H hw' hp => ?_)
 obtain ⟨hres, hI⟩ := hp
 replace hres := hres.symm; subst hres
 replace hS : S wm 8 _ H ((7, .bool r1) :: _) ([] ++ _) Fr := hS.after rfl hw' hI
 clear hI hw'
 refine o_pure hS (.inl rfl) rfl rfl ?_; clear hS
 intro tm hS
 refine o_pure hS (.inl rfl) rfl rfl ?_; clear hS
 intro tm hS
 refine o_nil (hR _ _ ?_)
 clear hR R
 refine wpC.ret ?_
 obtain rfl := Option.some.inj h0
 refine Exists.intro _ (And.intro (rs_tmp hS rfl (rs_tmp hS rfl rs_nil)) ?_)
 have hI := hS.inv
 exact ⟨rfl, (hI.sub sn)⟩
theorem wk73 {wm : Nat} {H : AHeap} {Fr : List Ent} (ho120 : ora 120 = false) (fn1 : ByteArray) (b1 : Int)   (hI : Kn wm H [] Fr) {r : Int × Int} (h0 : M.ints_Monad fn1 b1 = some r) :
  wpF Try.prog ora wm 73 [.string fn1, .int .i64 b1] H (fun res H => res = .tuple #[.int .i64 r.1, .int .i64 r.2] ∧ Kn wm H [] Fr) := by
 unfold M.ints_Monad at h0
 refine f_enter (n := 24) Try.func73 rfl (by simp) hI rfl rfl rfl fun tm hS => ?_
 clear hI
 refine c_reg fun R hR => ?_
 refine o_pure hS (.inl rfl) rfl rfl ?_; clear hS
 intro tm hS
 refine o_pure hS (.inl rfl) rfl rfl ?_; clear hS
 intro tm hS
 refine o_nil (hR _ _ ?_)
 clear hR R
 refine c_reg fun R hR => ?_
 obtain ⟨r1, hx1, h0⟩ := bindS h0
 refine o_call hS (.inl rfl) rfl (fun wm' hw1 hw2 => wk120 ho120    (hS.sel hw2) hx1) (fun wm' res H hw' hp => ?_)
 obtain ⟨b2, hres, hI⟩ := hp
 replace hres := hres.symm; subst hres
 replace hS : S wm 24 _ H ((9, .map (some b2)) :: _) ([.raw b2 (.amap (mapE [(str_43, 135), (str_226_140_136, 135), (str_226_140_138, 135), (str_45, 136), (str_195_151, 137), (str_195_183, 139), (str_42, 140), (str_124, 141), (str_33, 142), (str_126, 143)]))] ++ _) Fr := hS.after rfl hw' hI
 clear hI hw'
 refine o_pure hS (.inl rfl) rfl rfl ?_; clear hS
 intro tm hS
 refine o_lookup (k := 0) hS (.inl rfl) rfl rfl rfl rfl Fu115 Fu9 (by kernel_rfl) ?_; clear hS
 intro tm hS
 rcases Bool.eq_false_or_eq_true (fn1 == str_43) with hk | hk
 ·rw [lookT_yes hk] at hS
  replace h0 := iteT hk h0
  clear hk
  refine o_pure hS (.inl rfl) rfl rfl ?_; clear hS
  intro tm hS
  refine o_pure hS (.inl rfl) rfl rfl ?_; clear hS
  intro tm hS
  refine o_pure hS (.inl rfl) rfl rfl ?_; clear hS
  intro tm hS
  refine o_pure hS (.inl rfl) rfl rfl ?_; clear hS
  intro tm hS
  refine o_pure hS (.inl rfl) rfl rfl ?_; clear hS
  intro tm hS
  refine o_nil (hR _ _ ?_)
  clear hR R
  refine c_seqS ?_
  refine c_reg fun R hR => ?_
  refine o_pure hS (.inl rfl) rfl rfl ?_; clear hS
  intro tm hS
  refine o_pure hS (.inl rfl) rfl rfl ?_; clear hS
  intro tm hS
  refine o_nil (hR _ _ ?_)
  clear hR R
  refine c_cond hS rfl (fun h => by cases h) (fun _ => ?_)
  refine wpC.skip ?_
  refine c_reg fun R hR => ?_
  refine o_pure hS (.inl rfl) rfl rfl ?_; clear hS
  intro tm hS
  refine o_pure hS (.inl rfl) rfl rfl ?_; clear hS
  intro tm hS
  obtain ⟨⟨r2, r3⟩, hx2, h0⟩ := bindS h0
  refine o_call hS (.inl rfl) rfl (fun wm' hw1 hw2 => wk135  b1   (hS.sel hw2) hx2) (fun wm' res H hw' hp => ?_)
  obtain ⟨hres, hI⟩ := hp
  replace hres := hres.symm; subst hres
  replace hS : S wm 24 _ H ((18, .tuple #[.int .i64 r2, .bool r3]) :: _) ([] ++ _) Fr := hS.after rfl hw' hI
  clear hI hw'
  refine o_pure hS (.inl rfl) rfl rfl ?_; clear hS
  intro tm hS
  refine o_pure hS (.inl rfl) rfl rfl ?_; clear hS
  intro tm hS
  obtain ⟨⟨r4, r5⟩, hx3, h0⟩ := bindS h0
  refine o_call hS (.inl rfl) rfl (fun wm' hw1 hw2 => wk53  r2 r3   (hS.sel hw2) hx3) (fun wm' res H hw' hp => ?_)
  obtain ⟨hres, hI⟩ := hp
  replace hres := hres.symm; subst hres
  replace hS : S wm 24 _ H ((21, .tuple #[.int .i64 r4, .int .i64 r5]) :: _) ([] ++ _) Fr := hS.after rfl hw' hI
  clear hI hw'
  refine o_pure hS (.inl rfl) rfl rfl ?_; clear hS
  intro tm hS
  refine o_pure hS (.inl rfl) rfl rfl ?_; clear hS
  intro tm hS
  refine o_pure hS (.inl rfl) rfl rfl ?_; clear hS
  intro tm hS
  refine o_pure hS (.inl rfl) rfl rfl ?_; clear hS
  intro tm hS
  refine o_nil (hR _ _ ?_)
  clear hR R
  refine wpC.ret ?_
  obtain rfl := Option.some.inj h0
  refine Exists.intro _ (And.intro (rs_tmp hS rfl (rs_tmp hS rfl rs_nil)) ?_)
  have hI := hS.inv
  exact ⟨rfl, (hI.sub sn)⟩
 rw [lookT_no hk] at hS
 replace h0 := iteF hk h0
 clear hk
 rcases Bool.eq_false_or_eq_true (fn1 == str_226_140_136) with hk | hk
 ·rw [lookT_yes hk] at hS
  replace h0 := iteT hk h0
  clear hk
  refine o_pure hS (.inl rfl) rfl rfl ?_; clear hS
  intro tm hS
  refine o_pure hS (.inl rfl) rfl rfl ?_; clear hS
  intro tm hS
  refine o_pure hS (.inl rfl) rfl rfl ?_; clear hS
  intro tm hS
  refine o_pure hS (.inl rfl) rfl rfl ?_; clear hS
  intro tm hS
  refine o_pure hS (.inl rfl) rfl rfl ?_; clear hS
  intro tm hS
  refine o_nil (hR _ _ ?_)
  clear hR R
  refine c_seqS ?_
  refine c_reg fun R hR => ?_
  refine o_pure hS (.inl rfl) rfl rfl ?_; clear hS
  intro tm hS
  refine o_pure hS (.inl rfl) rfl rfl ?_; clear hS
  intro tm hS
  refine o_nil (hR _ _ ?_)
  clear hR R
  refine c_cond hS rfl (fun h => by cases h) (fun _ => ?_)
  refine wpC.skip ?_
  refine c_reg fun R hR => ?_
  refine o_pure hS (.inl rfl) rfl rfl ?_; clear hS
  intro tm hS
  refine o_pure hS (.inl rfl) rfl rfl ?_; clear hS
  intro tm hS
  obtain ⟨⟨r6, r7⟩, hx4, h0⟩ := bindS h0
  refine o_call hS (.inl rfl) rfl (fun wm' hw1 hw2 => wk135  b1   (hS.sel hw2) hx4) (fun wm' res H hw' hp => ?_)
  obtain ⟨hres, hI⟩ := hp
  replace hres := hres.symm; subst hres
  replace hS : S wm 24 _ H ((18, .tuple #[.int .i64 r6, .bool r7]) :: _) ([] ++ _) Fr := hS.after rfl hw' hI
  clear hI hw'
  refine o_pure hS (.inl rfl) rfl rfl ?_; clear hS
  intro tm hS
  refine o_pure hS (.inl rfl) rfl rfl ?_; clear hS
  intro tm hS
  obtain ⟨⟨r8, r9⟩, hx5, h0⟩ := bindS h0
  refine o_call hS (.inl rfl) rfl (fun wm' hw1 hw2 => wk53  r6 r7   (hS.sel hw2) hx5) (fun wm' res H hw' hp => ?_)
  obtain ⟨hres, hI⟩ := hp
  replace hres := hres.symm; subst hres
  replace hS : S wm 24 _ H ((21, .tuple #[.int .i64 r8, .int .i64 r9]) :: _) ([] ++ _) Fr := hS.after rfl hw' hI
  clear hI hw'
  refine o_pure hS (.inl rfl) rfl rfl ?_; clear hS
  intro tm hS
  refine o_pure hS (.inl rfl) rfl rfl ?_; clear hS
  intro tm hS
  refine o_pure hS (.inl rfl) rfl rfl ?_; clear hS
  intro tm hS
  refine o_pure hS (.inl rfl) rfl rfl ?_; clear hS
  intro tm hS
  refine o_nil (hR _ _ ?_)
  clear hR R
  refine wpC.ret ?_
  obtain rfl := Option.some.inj h0
  refine Exists.intro _ (And.intro (rs_tmp hS rfl (rs_tmp hS rfl rs_nil)) ?_)
  have hI := hS.inv
  exact ⟨rfl, (hI.sub sn)⟩
 rw [lookT_no hk] at hS
 replace h0 := iteF hk h0
 clear hk
 rcases Bool.eq_false_or_eq_true (fn1 == str_226_140_138) with hk | hk
 ·rw [lookT_yes hk] at hS
  replace h0 := iteT hk h0
  clear hk
  refine o_pure hS (.inl rfl) rfl rfl ?_; clear hS
  intro tm hS
  refine o_pure hS (.inl rfl) rfl rfl ?_; clear hS
  intro tm hS
  refine o_pure hS (.inl rfl) rfl rfl ?_; clear hS
  intro tm hS
  refine o_pure hS (.inl rfl) rfl rfl ?_; clear hS
  intro tm hS
  refine o_pure hS (.inl rfl) rfl rfl ?_; clear hS
  intro tm hS
  refine o_nil (hR _ _ ?_)
  clear hR R
  refine c_seqS ?_
  refine c_reg fun R hR => ?_
  refine o_pure hS (.inl rfl) rfl rfl ?_; clear hS
  intro tm hS
  refine o_pure hS (.inl rfl) rfl rfl ?_; clear hS
  intro tm hS
  refine o_nil (hR _ _ ?_)
  clear hR R
  refine c_cond hS rfl (fun h => by cases h) (fun _ => ?_)
  refine wpC.skip ?_
  refine c_reg fun R hR => ?_
  refine o_pure hS (.inl rfl) rfl rfl ?_; clear hS
  intro tm hS
  refine o_pure hS (.inl rfl) rfl rfl ?_; clear hS
  intro tm hS
  obtain ⟨⟨r10, r11⟩, hx6, h0⟩ := bindS h0
  refine o_call hS (.inl rfl) rfl (fun wm' hw1 hw2 => wk135  b1   (hS.sel hw2) hx6) (fun wm' res H hw' hp => ?_)
  obtain ⟨hres, hI⟩ := hp
  replace hres := hres.symm; subst hres
  replace hS : S wm 24 _ H ((18, .tuple #[.int .i64 r10, .bool r11]) :: _) ([] ++ _) Fr := hS.after rfl hw' hI
  clear hI hw'
  refine o_pure hS (.inl rfl) rfl rfl ?_; clear hS
  intro tm hS
  refine o_pure hS (.inl rfl) rfl rfl ?_; clear hS
  intro tm hS
  obtain ⟨⟨r12, r13⟩, hx7, h0⟩ := bindS h0
  refine o_call hS (.inl rfl) rfl (fun wm' hw1 hw2 => wk53  r10 r11   (hS.sel hw2) hx7) (fun wm' res H hw' hp => ?_)
  obtain ⟨hres, hI⟩ := hp
  replace hres := hres.symm; subst hres
  replace hS : S wm 24 _ H ((21, .tuple #[.int .i64 r12, .int .i64 r13]) :: _) ([] ++ _) Fr := hS.after rfl hw' hI
  clear hI hw'
  refine o_pure hS (.inl rfl) rfl rfl ?_; clear hS
  intro tm hS
  refine o_pure hS (.inl rfl) rfl rfl ?_; clear hS
  intro tm hS
  refine o_pure hS (.inl rfl) rfl rfl ?_; clear hS
  intro tm hS
  refine o_pure hS (.inl rfl) rfl rfl ?_; clear hS
  intro tm hS
  refine o_nil (hR _ _ ?_)
  clear hR R
  refine wpC.ret ?_
  obtain rfl := Option.some.inj h0
  refine Exists.intro _ (And.intro (rs_tmp hS rfl (rs_tmp hS rfl rs_nil)) ?_)
  have hI := hS.inv
  exact ⟨rfl, (hI.sub sn)⟩
 rw [lookT_no hk] at hS
 replace h0 := iteF hk h0
 clear hk
 rcases Bool.eq_false_or_eq_true (fn1 == str_45) with hk | hk
 ·rw [lookT_yes hk] at hS
  replace h0 := iteT hk h0
  clear hk
  refine o_pure hS (.inl rfl) rfl rfl ?_; clear hS
  intro tm hS
  refine o_pure hS (.inl rfl) rfl rfl ?_; clear hS
  intro tm hS
  refine o_pure hS (.inl rfl) rfl rfl ?_; clear hS
  intro tm hS
  refine o_pure hS (.inl rfl) rfl rfl ?_; clear hS
  intro tm hS
  refine o_pure hS (.inl rfl) rfl rfl ?_; clear hS
  intro tm hS
  refine o_nil (hR _ _ ?_)
  clear hR R
  refine c_seqS ?_
  refine c_reg fun R hR => ?_
  refine o_pure hS (.inl rfl) rfl rfl ?_; clear hS
  intro tm hS
  refine o_pure hS (.inl rfl) rfl rfl ?_; clear hS
  intro tm hS
  refine o_nil (hR _ _ ?_)
  clear hR R
  refine c_cond hS rfl (fun h => by cases h) (fun _ => ?_)
  refine wpC.skip ?_
  refine c_reg fun R hR => ?_
  refine o_pure hS (.inl rfl) rfl rfl ?_; clear hS
  intro tm hS
  refine o_pure hS (.inl rfl) rfl rfl ?_; clear hS
  intro tm hS
  obtain ⟨⟨r14, r15⟩, hx8, h0⟩ := bindS h0
  refine o_call hS (.inl rfl) rfl (fun wm' hw1 hw2 => wk136  b1   (hS.sel hw2) hx8) (fun wm' res H hw' hp => ?_)
  obtain ⟨hres, hI⟩ := hp
  replace hres := hres.symm; subst hres
  replace hS : S wm 24 _ H ((18, .tuple #[.int .i64 r14, .bool r15]) :: _) ([] ++ _) Fr := hS.after rfl hw' hI
  clear hI hw'
  refine o_pure hS (.inl rfl) rfl rfl ?_; clear hS
  intro tm hS
  refine o_pure hS (.inl rfl) rfl rfl ?_; clear hS
  intro tm hS
  obtain ⟨⟨r16, r17⟩, hx9, h0⟩ := bindS h0
  refine o_call hS (.inl rfl) rfl (fun wm' hw1 hw2 => wk53  r14 r15   (hS.sel hw2) hx9) (fun wm' res H hw' hp => ?_)
  obtain ⟨hres, hI⟩ := hp
  replace hres := hres.symm; subst hres
  replace hS : S wm 24 _ H ((21, .tuple #[.int .i64 r16, .int .i64 r17]) :: _) ([] ++ _) Fr := hS.after rfl hw' hI
  clear hI hw'
  refine o_pure hS (.inl rfl) rfl rfl ?_; clear hS
  intro tm hS
  refine o_pure hS (.inl rfl) rfl rfl ?_; clear hS
  intro tm hS
  refine o_pure hS (.inl rfl) rfl rfl ?_; clear hS
  intro tm hS
  refine o_pure hS (.inl rfl) rfl rfl ?_; clear hS
  intro tm hS
  refine o_nil (hR _ _ ?_)
  clear hR R
  refine wpC.ret ?_
  obtain rfl := Option.some.inj h0
  refine Exists.intro _ (And.intro (rs_tmp hS rfl (rs_tmp hS rfl rs_nil)) ?_)
  have hI := hS.inv
  exact ⟨rfl, (hI.sub sn)⟩
 rw [lookT_no hk] at hS
 replace h0 := iteF hk h0
 clear hk
 rcases Bool.eq_false_or_eq_true (fn1 == str_195_151) with hk | hk
 ·rw [lookT_yes hk] at hS
  replace h0 := iteT hk h0
  clear hk
  refine o_pure hS (.inl rfl) rfl rfl ?_; clear hS
  intro tm hS
  refine o_pure hS (.inl rfl) rfl rfl ?_; clear hS
  intro tm hS
  refine o_pure hS (.inl rfl) rfl rfl ?_; clear hS
  intro tm hS
  refine o_pure hS (.inl rfl) rfl rfl ?_; clear hS
  intro tm hS
  refine o_pure hS (.inl rfl) rfl rfl ?_; clear hS
  intro tm hS
  refine o_nil (hR _ _ ?_)
  clear hR R
  refine c_seqS ?_
  refine c_reg fun R hR => ?_
  refine o_pure hS (.inl rfl) rfl rfl ?_; clear hS
  intro tm hS
  refine o_pure hS (.inl rfl) rfl rfl ?_; clear hS
  intro tm hS
  refine o_nil (hR _ _ ?_)
  clear hR R
  refine c_cond hS rfl (fun h => by cases h) (fun _ => ?_)
  refine wpC.skip ?_
  refine c_reg fun R hR => ?_
  refine o_pure hS (.inl rfl) rfl rfl ?_; clear hS
  intro tm hS
  refine o_pure hS (.inl rfl) rfl rfl ?_; clear hS
  intro tm hS
  obtain ⟨⟨r18, r19⟩, hx10, h0⟩ := bindS h0
  refine o_call hS (.inl rfl) rfl (fun wm' hw1 hw2 => wk137  b1   (hS.sel hw2) hx10) (fun wm' res H hw' hp => ?_)
  obtain ⟨hres, hI⟩ := hp
  replace hres := hres.symm; subst hres
  replace hS : S wm 24 _ H ((18, .tuple #[.int .i64 r18, .bool r19]) :: _) ([] ++ _) Fr := hS.after rfl hw' hI
  clear hI hw'
  refine o_pure hS (.inl rfl) rfl rfl ?_; clear hS
  intro tm hS
  refine o_pure hS (.inl rfl) rfl rfl ?_; clear hS
  intro tm hS
  obtain ⟨⟨r20, r21⟩, hx11, h0⟩ := bindS h0
  refine o_call hS (.inl rfl) rfl (fun wm' hw1 hw2 => wk53  r18 r19   (hS.sel hw2) hx11) (fun wm' res H hw' hp => ?_)
  obtain ⟨hres, hI⟩ := hp
  replace hres := hres.symm; subst hres
  replace hS : S wm 24 _ H ((21, .tuple #[.int .i64 r20, .int .i64 r21]) :: _) ([] ++ _) Fr := hS.after rfl hw' hI
  clear hI hw'
  refine o_pure hS (.inl rfl) rfl rfl ?_; clear hS
  intro tm hS
  refine o_pure hS (.inl rfl) rfl rfl ?_; clear hS
  intro tm hS
  refine o_pure hS (.inl rfl) rfl rfl ?_; clear hS
  intro tm hS
  refine o_pure hS (.inl rfl) rfl rfl ?_; clear hS
  intro tm hS
  refine o_nil (hR _ _ ?_)
  clear hR R
  refine wpC.ret ?_
  obtain rfl := Option.some.inj h0
  refine Exists.intro _ (And.intro (rs_tmp hS rfl (rs_tmp hS rfl rs_nil)) ?_)
  have hI := hS.inv
  exact ⟨rfl, (hI.sub sn)⟩
 rw [lookT_no hk] at hS
 replace h0 := iteF hk h0
 clear hk
 rcases Bool.eq_false_or_eq_true (fn1 == str_195_183) with hk | hk
 ·rw [lookT_yes hk] at hS
  replace h0 := iteT hk h0
  clear hk
  refine o_pure hS (.inl rfl) rfl rfl ?_; clear hS
  intro tm hS
  refine o_pure hS (.inl rfl) rfl rfl ?_; clear hS
  intro tm hS
  refine o_pure hS (.inl rfl) rfl rfl ?_; clear hS
  intro tm hS
  refine o_pure hS (.inl rfl) rfl rfl ?_; clear hS
  intro tm hS
  refine o_pure hS (.inl rfl) rfl rfl ?_; clear hS
  intro tm hS
  refine o_nil (hR _ _ ?_)
  clear hR R
  refine c_seqS ?_
  refine c_reg fun R hR => ?_
  refine o_pure hS (.inl rfl) rfl rfl ?_; clear hS
  intro tm hS
  refine o_pure hS (.inl rfl) rfl rfl ?_; clear hS
  intro tm hS
  refine o_nil (hR _ _ ?_)
  clear hR R
  refine c_cond hS rfl (fun h => by cases h) (fun _ => ?_)
  refine wpC.skip ?_
  refine c_reg fun R hR => ?_
  refine o_pure hS (.inl rfl) rfl rfl ?_; clear hS
  intro tm hS
  refine o_pure hS (.inl rfl) rfl rfl ?_; clear hS
  intro tm hS
  obtain ⟨⟨r22, r23⟩, hx12, h0⟩ := bindS h0
  refine o_call hS (.inl rfl) rfl (fun wm' hw1 hw2 => wk139  b1   (hS.sel hw2) hx12) (fun wm' res H hw' hp => ?_)
  obtain ⟨hres, hI⟩ := hp
  replace hres := hres.symm; subst hres
  replace hS : S wm 24 _ H ((18, .tuple #[.int .i64 r22, .bool r23]) :: _) ([] ++ _) Fr := hS.after rfl hw' hI
  clear hI hw'
  refine o_pure hS (.inl rfl) rfl rfl ?_; clear hS
  intro tm hS
  refine o_pure hS (.inl rfl) rfl rfl ?_; clear hS
  intro tm hS
  obtain ⟨⟨r24, r25⟩, hx13, h0⟩ := bindS h0
  refine o_call hS (.inl rfl) rfl (fun wm' hw1 hw2 => wk53  r22 r23   (hS.sel hw2) hx13) (fun wm' res H hw' hp => ?_)
  obtain ⟨hres, hI⟩ := hp
  replace hres := hres.symm; subst hres
  replace hS : S wm 24 _ H ((21, .tuple #[.int .i64 r24, .int .i64 r25]) :: _) ([] ++ _) Fr := hS.after rfl hw' hI
  clear hI hw'
  refine o_pure hS (.inl rfl) rfl rfl ?_; clear hS
  intro tm hS
  refine o_pure hS (.inl rfl) rfl rfl ?_; clear hS
  intro tm hS
  refine o_pure hS (.inl rfl) rfl rfl ?_; clear hS
  intro tm hS
  refine o_pure hS (.inl rfl) rfl rfl ?_; clear hS
  intro tm hS
  refine o_nil (hR _ _ ?_)
  clear hR R
  refine wpC.ret ?_
  obtain rfl := Option.some.inj h0
  refine Exists.intro _ (And.intro (rs_tmp hS rfl (rs_tmp hS rfl rs_nil)) ?_)
  have hI := hS.inv
  exact ⟨rfl, (hI.sub sn)⟩
 rw [lookT_no hk] at hS
 replace h0 := iteF hk h0
 clear hk
 rcases Bool.eq_false_or_eq_true (fn1 == str_42) with hk | hk
 ·rw [lookT_yes hk] at hS
  replace h0 := iteT hk h0
  clear hk
  refine o_pure hS (.inl rfl) rfl rfl ?_; clear hS
  intro tm hS
  refine o_pure hS (.inl rfl) rfl rfl ?_; clear hS
  intro tm hS
  refine o_pure hS (.inl rfl) rfl rfl ?_; clear hS
  intro tm hS
  refine o_pure hS (.inl rfl) rfl rfl ?_; clear hS
  intro tm hS
  refine o_pure hS (.inl rfl) rfl rfl ?_; clear hS
  intro tm hS
  refine o_nil (hR _ _ ?_)
  clear hR R
  refine c_seqS ?_
  refine c_reg fun R hR => ?_
  refine o_pure hS (.inl rfl) rfl rfl ?_; clear hS
  intro tm hS
  refine o_pure hS (.inl rfl) rfl rfl ?_; clear hS
  intro tm hS
  refine o_nil (hR _ _ ?_)
  clear hR R
  refine c_cond hS rfl (fun h => by cases h) (fun _ => ?_)
  refine wpC.skip ?_
  refine c_reg fun R hR => ?_
  refine o_pure hS (.inl rfl) rfl rfl ?_; clear hS
  intro tm hS
  refine o_pure hS (.inl rfl) rfl rfl ?_; clear hS
  intro tm hS
  obtain ⟨⟨r26, r27⟩, hx14, h0⟩ := bindS h0
  refine o_call hS (.inl rfl) rfl (fun wm' hw1 hw2 => wk140  b1   (hS.sel hw2) hx14) (fun wm' res H hw' hp => ?_)
  obtain ⟨hres, hI⟩ := hp
  replace hres := hres.symm; subst hres
  replace hS : S wm 24 _ H ((18, .tuple #[.int .i64 r26, .bool r27]) :: _) ([] ++ _) Fr := hS.after rfl hw' hI
  clear hI hw'
  refine o_pure hS (.inl rfl) rfl rfl ?_; clear hS
  intro tm hS
  refine o_pure hS (.inl rfl) rfl rfl ?_; clear hS
  intro tm hS
  obtain ⟨⟨r28, r29⟩, hx15, h0⟩ := bindS h0
  refine o_call hS (.inl rfl) rfl (fun wm' hw1 hw2 => wk53  r26 r27   (hS.sel hw2) hx15) (fun wm' res H hw' hp => ?_)
  obtain ⟨hres, hI⟩ := hp
  replace hres := hres.symm; subst hres
  replace hS : S wm 24 _ H ((21, .tuple #[.int .i64 r28, .int .i64 r29]) :: _) ([] ++ _) Fr := hS.after rfl hw' hI
  clear hI hw'
  refine o_pure hS (.inl rfl) rfl rfl ?_; clear hS
  intro tm hS
  refine o_pure hS (.inl rfl) rfl rfl ?_; clear hS
  intro tm hS
  refine o_pure hS (.inl rfl) rfl rfl ?_; clear hS
  intro tm hS
  refine o_pure hS (.inl rfl) rfl rfl ?_; clear hS
  intro tm hS
  refine o_nil (hR _ _ ?_)
  clear hR R
  refine wpC.ret ?_
  obtain rfl := Option.some.inj h0
  refine Exists.intro _ (And.intro (rs_tmp hS rfl (rs_tmp hS rfl rs_nil)) ?_)
  have hI := hS.inv
  exact ⟨rfl, (hI.sub sn)⟩
 rw [lookT_no hk] at hS
 replace h0 := iteF hk h0
 clear hk
 rcases Bool.eq_false_or_eq_true (fn1 == str_124) with hk | hk
 ·rw [lookT_yes hk] at hS
  replace h0 := iteT hk h0
  clear hk
  refine o_pure hS (.inl rfl) rfl rfl ?_; clear hS
  intro tm hS
  refine o_pure hS (.inl rfl) rfl rfl ?_; clear hS
  intro tm hS
  refine o_pure hS (.inl rfl) rfl rfl ?_; clear hS
  intro tm hS
  refine o_pure hS (.inl rfl) rfl rfl ?_; clear hS
  intro tm hS
  refine o_pure hS (.inl rfl) rfl rfl ?_; clear hS
  intro tm hS
  refine o_nil (hR _ _ ?_)
  clear hR R
  refine c_seqS ?_
  refine c_reg fun R hR => ?_
  refine o_pure hS (.inl rfl) rfl rfl ?_; clear hS
  intro tm hS
  refine o_pure hS (.inl rfl) rfl rfl ?_; clear hS
  intro tm hS
  refine o_nil (hR _ _ ?_)
  clear hR R
  refine c_cond hS rfl (fun h => by cases h) (fun _ => ?_)
  refine wpC.skip ?_
  refine c_reg fun R hR => ?_
  refine o_pure hS (.inl rfl) rfl rfl ?_; clear hS
  intro tm hS
  refine o_pure hS (.inl rfl) rfl rfl ?_; clear hS
  intro tm hS
  obtain ⟨⟨r30, r31⟩, hx16, h0⟩ := bindS h0
  refine o_call hS (.inl rfl) rfl (fun wm' hw1 hw2 => wk141  b1   (hS.sel hw2) hx16) (fun wm' res H hw' hp => ?_)
  obtain ⟨hres, hI⟩ := hp
  replace hres := hres.symm; subst hres
  replace hS : S wm 24 _ H ((18, .tuple #[.int .i64 r30, .bool r31]) :: _) ([] ++ _) Fr := hS.after rfl hw' hI
  clear hI hw'
  refine o_pure hS (.inl rfl) rfl rfl ?_; clear hS
  intro tm hS
  refine o_pure hS (.inl rfl) rfl rfl ?_; clear hS
  intro tm hS
  obtain ⟨⟨r32, r33⟩, hx17, h0⟩ := bindS h0
  refine o_call hS (.inl rfl) rfl (fun wm' hw1 hw2 => wk53  r30 r31   (hS.sel hw2) hx17) (fun wm' res H hw' hp => ?_)
  obtain ⟨hres, hI⟩ := hp
  replace hres := hres.symm; subst hres
  replace hS : S wm 24 _ H ((21, .tuple #[.int .i64 r32, .int .i64 r33]) :: _) ([] ++ _) Fr := hS.after rfl hw' hI
  clear hI hw'
  refine o_pure hS (.inl rfl) rfl rfl ?_; clear hS
  intro tm hS
  refine o_pure hS (.inl rfl) rfl rfl ?_; clear hS
  intro tm hS
  refine o_pure hS (.inl rfl) rfl rfl ?_; clear hS
  intro tm hS
  refine o_pure hS (.inl rfl) rfl rfl ?_; clear hS
  intro tm hS
  refine o_nil (hR _ _ ?_)
  clear hR R
  refine wpC.ret ?_
  obtain rfl := Option.some.inj h0
  refine Exists.intro _ (And.intro (rs_tmp hS rfl (rs_tmp hS rfl rs_nil)) ?_)
  have hI := hS.inv
  exact ⟨rfl, (hI.sub sn)⟩
 rw [lookT_no hk] at hS
 replace h0 := iteF hk h0
 clear hk
 rcases Bool.eq_false_or_eq_true (fn1 == str_33) with hk | hk
 ·rw [lookT_yes hk] at hS
  replace h0 := iteT hk h0
  clear hk
  refine o_pure hS (.inl rfl) rfl rfl ?_; clear hS
  intro tm hS
  refine o_pure hS (.inl rfl) rfl rfl ?_; clear hS
  intro tm hS
  refine o_pure hS (.inl rfl) rfl rfl ?_; clear hS
  intro tm hS
  refine o_pure hS (.inl rfl) rfl rfl ?_; clear hS
  intro tm hS
  refine o_pure hS (.inl rfl) rfl rfl ?_; clear hS
  intro tm hS
  refine o_nil (hR _ _ ?_)
  clear hR R
  refine c_seqS ?_
  refine c_reg fun R hR => ?_
  refine o_pure hS (.inl rfl) rfl rfl ?_; clear hS
  intro tm hS
  refine o_pure hS (.inl rfl) rfl rfl ?_; clear hS
  intro tm hS
  refine o_nil (hR _ _ ?_)
  clear hR R
  refine c_cond hS rfl (fun h => by cases h) (fun _ => ?_)
  refine wpC.skip ?_
  refine c_reg fun R hR => ?_
  refine o_pure hS (.inl rfl) rfl rfl ?_; clear hS
  intro tm hS
  refine o_pure hS (.inl rfl) rfl rfl ?_; clear hS
  intro tm hS
  obtain ⟨⟨r34, r35⟩, hx18, h0⟩ := bindS h0
  refine o_call hS (.inl rfl) rfl (fun wm' hw1 hw2 => wk142  b1   (hS.sel hw2) hx18) (fun wm' res H hw' hp => ?_)
  obtain ⟨hres, hI⟩ := hp
  replace hres := hres.symm; subst hres
  replace hS : S wm 24 _ H ((18, .tuple #[.int .i64 r34, .bool r35]) :: _) ([] ++ _) Fr := hS.after rfl hw' hI
  clear hI hw'
  refine o_pure hS (.inl rfl) rfl rfl ?_; clear hS
  intro tm hS
  refine o_pure hS (.inl rfl) rfl rfl ?_; clear hS
  intro tm hS
  obtain ⟨⟨r36, r37⟩, hx19, h0⟩ := bindS h0
  refine o_call hS (.inl rfl) rfl (fun wm' hw1 hw2 => wk53  r34 r35   (hS.sel hw2) hx19) (fun wm' res H hw' hp => ?_)
  obtain ⟨hres, hI⟩ := hp
  replace hres := hres.symm; subst hres
  replace hS : S wm 24 _ H ((21, .tuple #[.int .i64 r36, .int .i64 r37]) :: _) ([] ++ _) Fr := hS.after rfl hw' hI
  clear hI hw'
  refine o_pure hS (.inl rfl) rfl rfl ?_; clear hS
  intro tm hS
  refine o_pure hS (.inl rfl) rfl rfl ?_; clear hS
  intro tm hS
  refine o_pure hS (.inl rfl) rfl rfl ?_; clear hS
  intro tm hS
  refine o_pure hS (.inl rfl) rfl rfl ?_; clear hS
  intro tm hS
  refine o_nil (hR _ _ ?_)
  clear hR R
  refine wpC.ret ?_
  obtain rfl := Option.some.inj h0
  refine Exists.intro _ (And.intro (rs_tmp hS rfl (rs_tmp hS rfl rs_nil)) ?_)
  have hI := hS.inv
  exact ⟨rfl, (hI.sub sn)⟩
 rw [lookT_no hk] at hS
 replace h0 := iteF hk h0
 clear hk
 rcases Bool.eq_false_or_eq_true (fn1 == str_126) with hk | hk
 ·rw [lookT_yes hk] at hS
  replace h0 := iteT hk h0
  clear hk
  refine o_pure hS (.inl rfl) rfl rfl ?_; clear hS
  intro tm hS
  refine o_pure hS (.inl rfl) rfl rfl ?_; clear hS
  intro tm hS
  refine o_pure hS (.inl rfl) rfl rfl ?_; clear hS
  intro tm hS
  refine o_pure hS (.inl rfl) rfl rfl ?_; clear hS
  intro tm hS
  refine o_pure hS (.inl rfl) rfl rfl ?_; clear hS
  intro tm hS
  refine o_nil (hR _ _ ?_)
  clear hR R
  refine c_seqS ?_
  refine c_reg fun R hR => ?_
  refine o_pure hS (.inl rfl) rfl rfl ?_; clear hS
  intro tm hS
  refine o_pure hS (.inl rfl) rfl rfl ?_; clear hS
  intro tm hS
  refine o_nil (hR _ _ ?_)
  clear hR R
  refine c_cond hS rfl (fun h => by cases h) (fun _ => ?_)
  refine wpC.skip ?_
  refine c_reg fun R hR => ?_
  refine o_pure hS (.inl rfl) rfl rfl ?_; clear hS
  intro tm hS
  refine o_pure hS (.inl rfl) rfl rfl ?_; clear hS
  intro tm hS
  obtain ⟨⟨r38, r39⟩, hx20, h0⟩ := bindS h0
  refine o_call hS (.inl rfl) rfl (fun wm' hw1 hw2 => wk143  b1   (hS.sel hw2) hx20) (fun wm' res H hw' hp => ?_)
  obtain ⟨hres, hI⟩ := hp
  replace hres := hres.symm; subst hres
  replace hS : S wm 24 _ H ((18, .tuple #[.int .i64 r38, .bool r39]) :: _) ([] ++ _) Fr := hS.after rfl hw' hI
  clear hI hw'
  refine o_pure hS (.inl rfl) rfl rfl ?_; clear hS
  intro tm hS
  refine o_pure hS (.inl rfl) rfl rfl ?_; clear hS
  intro tm hS
  obtain ⟨⟨r40, r41⟩, hx21, h0⟩ := bindS h0
  refine o_call hS (.inl rfl) rfl (fun wm' hw1 hw2 => wk53  r38 r39   (hS.sel hw2) hx21) (fun wm' res H hw' hp => ?_)
  obtain ⟨hres, hI⟩ := hp
  replace hres := hres.symm; subst hres
  replace hS : S wm 24 _ H ((21, .tuple #[.int .i64 r40, .int .i64 r41]) :: _) ([] ++ _) Fr := hS.after rfl hw' hI
  clear hI hw'
  refine o_pure hS (.inl rfl) rfl rfl ?_; clear hS
  intro tm hS
  refine o_pure hS (.inl rfl) rfl rfl ?_; clear hS
  intro tm hS
  refine o_pure hS (.inl rfl) rfl rfl ?_; clear hS
  intro tm hS
  refine o_pure hS (.inl rfl) rfl rfl ?_; clear hS
  intro tm hS
  refine o_nil (hR _ _ ?_)
  clear hR R
  refine wpC.ret ?_
  obtain rfl := Option.some.inj h0
  refine Exists.intro _ (And.intro (rs_tmp hS rfl (rs_tmp hS rfl rs_nil)) ?_)
  have hI := hS.inv
  exact ⟨rfl, (hI.sub sn)⟩
 rw [lookT_no hk] at hS
 replace h0 := iteF hk h0
 clear hk
 rw [lookT_nil] at hS
 refine o_pure hS (.inl rfl) rfl rfl ?_; clear hS
 intro tm hS
 refine o_pure hS (.inl rfl) rfl rfl ?_; clear hS
 intro tm hS
 refine o_pure hS (.inl rfl) rfl rfl ?_; clear hS
 intro tm hS
 refine o_pure hS (.inl rfl) rfl rfl ?_; clear hS
 intro tm hS
 refine o_pure hS (.inl rfl) rfl rfl ?_; clear hS
 intro tm hS
 refine o_nil (hR _ _ ?_)
 clear hR R
 refine c_seqS ?_
 refine c_reg fun R hR => ?_
 refine o_pure hS (.inl rfl) rfl rfl ?_; clear hS
 intro tm hS
 refine o_pure hS (.inl rfl) rfl rfl ?_; clear hS
 intro tm hS
 refine o_nil (hR _ _ ?_)
 clear hR R
 refine c_cond hS rfl (fun _ => ?_) (fun h => by cases h)
 refine c_reg fun R hR => ?_
 refine o_pure hS (.inl rfl) rfl rfl ?_; clear hS
 intro tm hS
 refine o_pure hS (.inl rfl) rfl rfl ?_; clear hS
 intro tm hS
 refine o_nil (hR _ _ ?_)
 clear hR R
 refine wpC.ret ?_
 obtain rfl := Option.some.inj h0
 refine Exists.intro _ (And.intro (rs_tmp hS rfl (rs_tmp hS rfl rs_nil)) ?_)
 have hI := hS.inv
 exact ⟨rfl, (hI.sub sn)⟩
theorem wk105 {wm : Nat} {H : AHeap} {Fr : List Ent}  (s1 : (List Int)) (f1 : (Int → Option (Bool))) (gfn1 : FuncId) (gcap1 : Array Value) (E : List Ent) (hE : ∀ e ∈ E, e.blk = none) (hf : ∀ {wm : Nat} {H : AHeap} {Fr : List Ent} (y0 : Int) , Kn wm H (E) Fr → ∀ {r : Bool}, f1 y0 = some r → wpF Try.prog ora wm gfn1 ([.int .i64 y0] ++ gcap1.toList) H (fun res H => res = .bool r ∧ Kn wm H [] Fr)) (v1 : Value) (hI : Kn wm H (.fz (rI .i64) v1 s1 :: E) Fr) {r : Int} (h0 : M.slices_IndexFunc__int64 s1 f1 = some r) :
  wpF Try.prog ora wm 105 [v1, .func (.func gfn1) #[] gcap1] H (fun res H => res = .int .i64 r ∧ Kn wm H [] Fr) := by
 unfold M.slices_IndexFunc__int64 at h0
 refine f_enter (n := 19) Try.func105 rfl (by simp) hI rfl rfl rfl fun tm hS => ?_
 clear hI
 refine c_reg fun R hR => ?_
 refine o_pure hS (.inl rfl) rfl rfl ?_; clear hS
 intro tm hS
 refine o_nil (hR _ _ ?_)
 clear hR R
 refine c_seqS ?_
 refine c_reg fun R hR => ?_
 refine o_pure hS (.inl rfl) rfl rfl ?_; clear hS
 intro tm hS
 refine o_len (k := 0) (r := (rI .i64)) hS (.inl rfl) rfl rfl rfl (.inl rfl) Fu23 rfl ?_; clear hS
 intro tm hS
 refine o_pure hS (.inl rfl) rfl rfl ?_; clear hS
 intro tm hS
 refine o_nil (hR _ _ ?_)
 clear hR R
 obtain ⟨k1, hw1, h0⟩ := bindS h0
 refine wpC.block ?_
 refine c_loop (I := fun (s : Int) tm H => match (generalizing := false) s with | t1 => S wm 19 tm H [(0, v1), (1, .func (.func gfn1) #[] gcap1), (7, .int .i64 (s1.length : Int)), (8, .int .i64 t1)] (.fz (rI .i64) v1 s1 :: E) Fr) hw1 (by change S wm 19 _ _ _ _ Fr; exact hS.keep (ka_cons rfl (ka_cons rfl (ka_cons rfl (ka_cons rfl ka_nil)))) (fun hI => (hI.sub (sc sr)))) ?_
 clear hS
 intro t1 tm H c1 hS h1 hq1
 change S wm 19 tm H [(0, v1), (1, .func (.func gfn1) #[] gcap1), (7, .int .i64 (s1.length : Int)), (8, .int .i64 t1)] (.fz (rI .i64) v1 s1 :: E) Fr at hS
 refine c_reg fun R hR => ?_
 refine o_pure hS (.inl rfl) rfl rfl ?_; clear hS
 intro tm hS
 refine o_nil (hR _ _ ?_)
 clear hR R
 refine c_seqS ?_
 refine c_cond hS rfl (fun hc => ?_) (fun hc => ?_)
 ·replace h1 := iteT hc h1
  refine wpC.skip ?_
  refine c_seqS ?_
  refine wpC.block ?_
  refine c_reg fun R hR => ?_
  refine o_pure hS (.inl rfl) rfl rfl ?_; clear hS
  intro tm hS
  refine o_pure hS (.inl rfl) rfl rfl ?_; clear hS
  intro tm hS
  refine o_nil (hR _ _ ?_)
  clear hR R
  refine c_reg fun R hR => ?_
  refine o_pure hS (.inl rfl) rfl rfl ?_; clear hS
  intro tm hS
  refine o_pure hS (.inl rfl) rfl rfl ?_; clear hS
  intro tm hS
  refine o_pure hS (.inl rfl) rfl rfl ?_; clear hS
  intro tm hS
  obtain ⟨y1, hx1, h1⟩ := bindS h1
  refine o_ixA (k := 0) (r := (rI .i64)) hS (.inl rfl) rfl rfl rfl rfl (.inl rfl) Fu23 Fs2 hx1 ?_; clear hS
  intro tm hS
  refine o_ldF (r := (rI .i64)) (k := 0) hS (.inl rfl) rfl rfl rfl (.inl rfl) hx1 Fu2 rfl (flat_I _) rfl ?_; clear hS
  intro tm hS
  obtain ⟨r1, hx2, h1⟩ := bindS h1
  refine o_call hS (.inl rfl) rfl (fun wm' hw1 hw2 => hf y1  ((hS.sel hw2).adAll hE (fun e he => List.mem_cons_of_mem _ (he))) hx2) (fun wm' res H hw' hp => ?_)
  obtain ⟨hres, hI⟩ := hp
  replace hres := hres.symm; subst hres
  replace hS : S wm 19 _ H ((16, .bool r1) :: _) ([] ++ _) Fr := hS.after rfl hw' hI
  clear hI hw'
  refine o_nil (hR _ _ ?_)
  clear hR R
  refine c_cond hS rfl (fun hc => ?_) (fun hc => ?_)
  ·replace h1 := iteT hc h1
   refine c_reg fun R hR => ?_
   refine o_pure hS (.inl rfl) rfl rfl ?_; clear hS
   intro tm hS
   refine o_pure hS (.inl rfl) rfl rfl ?_; clear hS
   intro tm hS
   refine o_nil (hR _ _ ?_)
   clear hR R
   refine wpC.ret ?_
   obtain rfl := Option.some.inj h1
   obtain rfl := hq1 _ rfl
   refine And.intro rfl ?_
   obtain rfl := leave h0
   refine Exists.intro _ (And.intro (rs_tmp hS rfl rs_nil) ?_)
   have hI := hS.inv
   exact ⟨rfl, (hI.sub sn)⟩
  ·replace h1 := iteF hc h1
   refine wpC.skip ?_
   refine c_reg1 fun R hR => ?_
   refine o_pure hS (.inl rfl) rfl rfl ?_; clear hS
   intro tm hS
   refine o_pure hS (.inl rfl) rfl rfl ?_; clear hS
   intro tm hS
   refine o_nil (hR _ _ ?_)
   clear hR R
   obtain rfl := Option.some.inj h1
   refine ⟨_, rfl, ?_⟩
   change S wm 19 _ _ _ _ Fr; exact hS.keep (ka_cons rfl (ka_cons rfl (ka_cons rfl (ka_cons rfl ka_nil)))) (fun hI => (hI.sub (sc sr)))
 ·replace h1 := iteF hc h1
  refine wpC.exit ?_
  refine seqX ?_
  obtain rfl := Option.some.inj h1
  obtain rfl := hq1 _ rfl
  refine And.intro rfl (blk_eq ?_)
  replace h0 := joinN h0
  refine c_reg fun R hR => ?_
  refine o_pure hS (.inl rfl) rfl rfl ?_; clear hS
  intro tm hS
  refine o_nil (hR _ _ ?_)
  clear hR R
  refine wpC.ret ?_
  obtain rfl := Option.some.inj h0
  refine Exists.intro _ (And.intro (rs_tmp hS rfl rs_nil) ?_)
  have hI := hS.inv
  exact ⟨rfl, (hI.sub sn)⟩
theorem wk54 {wm : Nat} {H : AHeap} {Fr : List Ent}  (s1 : (List Int)) (f1 : (Int → Option (Bool))) (gfn1 : FuncId) (gcap1 : Array Value) (E : List Ent) (hE : ∀ e ∈ E, e.blk = none) (hf : ∀ {wm : Nat} {H : AHeap} {Fr : List Ent} (y0 : Int) , Kn wm H (E) Fr → ∀ {r : Bool}, f1 y0 = some r → wpF Try.prog ora wm gfn1 ([.int .i64 y0] ++ gcap1.toList) H (fun res H => res = .bool r ∧ Kn wm H [] Fr)) (v1 : Value) (hI : Kn wm H (.fz (rI .i64) v1 s1 :: E) Fr) {r : Bool} (h0 : M.slices_ContainsFunc__int64 s1 f1 = some r) :
  wpF Try.prog ora wm 54 [v1, .func (.func gfn1) #[] gcap1] H (fun res H => res = .bool r ∧ Kn wm H [] Fr) := by
 unfold M.slices_ContainsFunc__int64 at h0
 refine f_enter (n := 9) Try.func54 rfl (by simp) hI rfl rfl rfl fun tm hS => ?_
 clear hI
 refine c_reg fun R hR => ?_
 refine o_pure hS (.inl rfl) rfl rfl ?_; clear hS
 intro tm hS
 refine o_nil (hR _ _ ?_)
 clear hR R
 refine c_reg fun R hR => ?_
 refine o_pure hS (.inl rfl) rfl rfl ?_; clear hS
 intro tm hS
 refine o_pure hS (.inl rfl) rfl rfl ?_; clear hS
 intro tm hS
 obtain ⟨r1, hx1, h0⟩ := bindS h0
 refine o_call hS (.inl rfl) rfl (fun wm' hw1 hw2 => wk105  s1 f1 gfn1 gcap1 E hE hf v1 (((hS.sel hw2).adAll hE (fun e he => List.mem_cons_of_mem _ (he))).ad 0 rfl) hx1) (fun wm' res H hw' hp => ?_)
 obtain ⟨hres, hI⟩ := hp
 replace hres := hres.symm; subst hres
 replace hS : S wm 9 _ H ((7, .int .i64 r1) :: _) ([] ++ _) Fr := hS.after rfl hw' hI
 clear hI hw'
 refine o_pure hS (.inl rfl) rfl rfl ?_; clear hS
 intro tm hS
 refine o_pure hS (.inl rfl) rfl rfl ?_; clear hS
 intro tm hS
 refine o_nil (hR _ _ ?_)
 clear hR R
 refine wpC.ret ?_
 obtain rfl := Option.some.inj h0
 refine Exists.intro _ (And.intro (rs_tmp hS rfl rs_nil) ?_)
 have hI := hS.inv
 exact ⟨rfl, (hI.sub sn)⟩
theorem wk106 {wm : Nat} {H : AHeap} {Fr : List Ent}  (r1 : Int)   (hI : Kn wm H [] Fr) {r : Bool} (h0 : M.unicode_utf8_ValidRune r1 = some r) :
  wpF Try.prog ora wm 106 [.int .i32 r1] H (fun res H => res = .bool r ∧ Kn wm H [] Fr) := by
 unfold M.unicode_utf8_ValidRune at h0
 refine f_enter (n := 17) Try.func106 rfl (by simp) hI rfl rfl rfl fun tm hS => ?_
 clear hI
 refine c_reg fun R hR => ?_
 refine o_pure hS (.inl rfl) rfl rfl ?_; clear hS
 intro tm hS
 refine o_nil (hR _ _ ?_)
 clear hR R
 refine c_seqS ?_
 refine wpC.block ?_
 refine c_reg fun R hR => ?_
 refine o_pure hS (.inl rfl) rfl rfl ?_; clear hS
 intro tm hS
 refine o_pure hS (.inl rfl) rfl rfl ?_; clear hS
 intro tm hS
 refine o_pure hS (.inl rfl) rfl rfl ?_; clear hS
 intro tm hS
 obtain ⟨c1, hc1⟩ : ∃ x : Bool, x = ((decide (0 ≤ r1)) && (decide (r1 < 55296))) := ⟨_, rfl⟩
 refine o_cutN 3 (J := fun tm H => S wm 17 tm H [(9, .bool c1), (0, .int .i32 r1)] [] Fr) ?_ ?_
 ·rcases Bool.eq_false_or_eq_true (decide (0 ≤ r1)) with hg1 | hg1
  ·refine o_pure hS (.inr ⟨_, _, _, _, rfl, rfl, rfl, hg1⟩) rfl rfl ?_; clear hS
   intro tm hS
   refine o_pure hS (.inr ⟨_, _, _, _, rfl, rfl, rfl, hg1⟩) rfl rfl ?_; clear hS
   intro tm hS
   refine o_pickT hS (.inl rfl) rfl rfl hg1 rfl ?_; clear hS
   intro tm hS
   have hc1 : c1 = (decide (r1 < 55296)) := hc1.trans (by rw [hg1]; first | rfl | simp)
   subst hc1
   exact o_nil (hS.keep (ka_cons rfl (ka_cons rfl ka_nil)) (fun hI => (hI.sub sn)))
  ·refine o_skip hS rfl rfl rfl hg1 ?_; clear hS
   intro tm hS
   refine o_skip hS rfl rfl rfl hg1 ?_; clear hS
   intro tm hS
   refine o_pickF hS (.inl rfl) rfl rfl hg1 rfl ?_; clear hS
   intro tm hS
   have hc1 : c1 = false := hc1.trans (by rw [hg1]; first | rfl | simp)
   subst hc1
   exact o_nil (hS.keep (ka_cons rfl (ka_cons rfl ka_nil)) (fun hI => (hI.sub sn)))
 intro tm H hS
 subst hc1
 refine o_pure hS (.inl rfl) rfl rfl ?_; clear hS
 intro tm hS
 refine o_nil (hR _ _ ?_)
 clear hR R
 refine c_cond hS rfl (fun hc => ?_) (fun hc => ?_)
 ·replace h0 := iteT hc h0
  refine c_reg fun R hR => ?_
  refine o_pure hS (.inl rfl) rfl rfl ?_; clear hS
  intro tm hS
  refine o_nil (hR _ _ ?_)
  clear hR R
  refine wpC.ret ?_
  obtain rfl := Option.some.inj h0
  refine Exists.intro _ (And.intro (rs_tmp hS rfl rs_nil) ?_)
  have hI := hS.inv
  exact ⟨rfl, (hI.sub sn)⟩
 ·replace h0 := iteF hc h0
  refine c_reg fun R hR => ?_
  refine o_pure hS (.inl rfl) rfl rfl ?_; clear hS
  intro tm hS
  refine o_pure hS (.inl rfl) rfl rfl ?_; clear hS
  intro tm hS
  refine o_pure hS (.inl rfl) rfl rfl ?_; clear hS
  intro tm hS
  obtain ⟨c2, hc2⟩ : ∃ x : Bool, x = ((decide (57343 < r1)) && (decide (r1 ≤ 1114111))) := ⟨_, rfl⟩
  refine o_cutN 3 (J := fun tm H => S wm 17 tm H [(16, .bool c2)] [] Fr) ?_ ?_
  ·rcases Bool.eq_false_or_eq_true (decide (57343 < r1)) with hg2 | hg2
   ·refine o_pure hS (.inr ⟨_, _, _, _, rfl, rfl, rfl, hg2⟩) rfl rfl ?_; clear hS
    intro tm hS
    refine o_pure hS (.inr ⟨_, _, _, _, rfl, rfl, rfl, hg2⟩) rfl rfl ?_; clear hS
    intro tm hS
    refine o_pickT hS (.inl rfl) rfl rfl hg2 rfl ?_; clear hS
    intro tm hS
    have hc2 : c2 = (decide (r1 ≤ 1114111)) := hc2.trans (by rw [hg2]; first | rfl | simp)
    subst hc2
    exact o_nil (hS.keep (ka_cons rfl ka_nil) (fun hI => (hI.sub sn)))
   ·refine o_skip hS rfl rfl rfl hg2 ?_; clear hS
    intro tm hS
    refine o_skip hS rfl rfl rfl hg2 ?_; clear hS
    intro tm hS
    refine o_pickF hS (.inl rfl) rfl rfl hg2 rfl ?_; clear hS
    intro tm hS
    have hc2 : c2 = false := hc2.trans (by rw [hg2]; first | rfl | simp)
    subst hc2
    exact o_nil (hS.keep (ka_cons rfl ka_nil) (fun hI => (hI.sub sn)))
  intro tm H hS
  subst hc2
  refine o_pure hS (.inl rfl) rfl rfl ?_; clear hS
  intro tm hS
  refine o_nil (hR _ _ ?_)
  clear hR R
  refine c_cond hS rfl (fun hc => ?_) (fun hc => ?_)
  ·replace h0 := iteT hc h0
   refine c_reg fun R hR => ?_
   refine o_pure hS (.inl rfl) rfl rfl ?_; clear hS
   intro tm hS
   refine o_nil (hR _ _ ?_)
   clear hR R
   refine wpC.ret ?_
   obtain rfl := Option.some.inj h0
   refine Exists.intro _ (And.intro (rs_tmp hS rfl rs_nil) ?_)
   have hI := hS.inv
   exact ⟨rfl, (hI.sub sn)⟩
  ·replace h0 := iteF hc h0
   refine wpC.skip ?_
   refine c_reg fun R hR => ?_
   refine o_pure hS (.inl rfl) rfl rfl ?_; clear hS
   intro tm hS
   refine o_nil (hR _ _ ?_)
   clear hR R
   refine wpC.ret ?_
   obtain rfl := Option.some.inj h0
   refine Exists.intro _ (And.intro (rs_tmp hS rfl rs_nil) ?_)
   have hI := hS.inv
   exact ⟨rfl, (hI.sub sn)⟩
theorem wk56 {wm : Nat} {H : AHeap} {Fr : List Ent}  (n1 : Int)   (hI : Kn wm H [] Fr) {r : Bool} (h0 : M.value_character n1 = some r) :
  wpF Try.prog ora wm 56 [.int .i64 n1] H (fun res H => res = .bool r ∧ Kn wm H [] Fr) := by
 unfold M.value_character at h0
 refine f_enter (n := 14) Try.func56 rfl (by simp) hI rfl rfl rfl fun tm hS => ?_
 clear hI
 refine c_reg fun R hR => ?_
 refine o_pure hS (.inl rfl) rfl rfl ?_; clear hS
 intro tm hS
 refine o_nil (hR _ _ ?_)
 clear hR R
 refine c_reg fun R hR => ?_
 refine o_pure hS (.inl rfl) rfl rfl ?_; clear hS
 intro tm hS
 refine o_pure hS (.inl rfl) rfl rfl ?_; clear hS
 intro tm hS
 refine o_pure hS (.inl rfl) rfl rfl ?_; clear hS
 intro tm hS
 obtain ⟨c1, hc1⟩ : ∃ x : Bool, x = ((decide (n1 ≥ 0)) && (decide (n1 ≤ 1114111))) := ⟨_, rfl⟩
 refine o_cutN 3 (J := fun tm H => S wm 14 tm H [(8, .bool c1), (0, .int .i64 n1)] [] Fr) ?_ ?_
 ·rcases Bool.eq_false_or_eq_true (decide (n1 ≥ 0)) with hg1 | hg1
  ·refine o_pure hS (.inr ⟨_, _, _, _, rfl, rfl, rfl, hg1⟩) rfl rfl ?_; clear hS
   intro tm hS
   refine o_pure hS (.inr ⟨_, _, _, _, rfl, rfl, rfl, hg1⟩) rfl rfl ?_; clear hS
   intro tm hS
   refine o_pickT hS (.inl rfl) rfl rfl hg1 rfl ?_; clear hS
   intro tm hS
   have hc1 : c1 = (decide (n1 ≤ 1114111)) := hc1.trans (by rw [hg1]; first | rfl | simp)
   subst hc1
   exact o_nil (hS.keep (ka_cons rfl (ka_cons rfl ka_nil)) (fun hI => (hI.sub sn)))
  ·refine o_skip hS rfl rfl rfl hg1 ?_; clear hS
   intro tm hS
   refine o_skip hS rfl rfl rfl hg1 ?_; clear hS
   intro tm hS
   refine o_pickF hS (.inl rfl) rfl rfl hg1 rfl ?_; clear hS
   intro tm hS
   have hc1 : c1 = false := hc1.trans (by rw [hg1]; first | rfl | simp)
   subst hc1
   exact o_nil (hS.keep (ka_cons rfl (ka_cons rfl ka_nil)) (fun hI => (hI.sub sn)))
 intro tm H hS
 subst hc1
 refine o_pure hS (.inl rfl) rfl rfl ?_; clear hS
 intro tm hS
 obtain ⟨c2, hc2, h0⟩ := bindS h0
 refine o_cutN 4 (J := fun tm H => S wm 14 tm H [(13, .bool c2)] [] Fr) ?_ ?_
 ·rcases Bool.eq_false_or_eq_true ((decide (n1 ≥ 0)) && (decide (n1 ≤ 1114111))) with hg2 | hg2
  ·replace hc2 := iteT hg2 hc2
   refine o_pure hS (.inr ⟨_, _, _, _, rfl, rfl, rfl, hg2⟩) rfl rfl ?_; clear hS
   intro tm hS
   refine o_pure hS (.inr ⟨_, _, _, _, rfl, rfl, rfl, hg2⟩) rfl rfl ?_; clear hS
   intro tm hS
   obtain ⟨r1, hx1, hc2⟩ := bindS hc2
   refine o_call hS (.inr ⟨_, _, _, _, rfl, rfl, rfl, hg2⟩) rfl (fun wm' hw1 hw2 => wk106  (IntKind.i32.wrap n1)   (hS.sel hw2) hx1) (fun wm' res H hw' hp => ?_)
   obtain ⟨hres, hI⟩ := hp
   replace hres := hres.symm; subst hres
   replace hS : S wm 14 _ H ((12, .bool r1) :: _) ([] ++ _) Fr := hS.after rfl hw' hI
   clear hI hw'
   refine o_pickT hS (.inl rfl) rfl rfl hg2 rfl ?_; clear hS
   intro tm hS
   obtain rfl := Option.some.inj hc2
   exact o_nil (hS.keep (ka_cons rfl ka_nil) (fun hI => (hI.sub sn)))
  ·replace hc2 := iteF hg2 hc2
   refine o_skip hS rfl rfl rfl hg2 ?_; clear hS
   intro tm hS
   refine o_skip hS rfl rfl rfl hg2 ?_; clear hS
   intro tm hS
   refine o_skip hS rfl rfl rfl hg2 ?_; clear hS
   intro tm hS
   refine o_pickF hS (.inl rfl) rfl rfl hg2 rfl ?_; clear hS
   intro tm hS
   obtain rfl := Option.some.inj hc2
   exact o_nil (hS.keep (ka_cons rfl ka_nil) (fun hI => (hI.sub sn)))
 intro tm H hS
 refine o_pure hS (.inl rfl) rfl rfl ?_; clear hS
 intro tm hS
 refine o_nil (hR _ _ ?_)
 clear hR R
 refine wpC.ret ?_
 obtain rfl := Option.some.inj h0
 refine Exists.intro _ (And.intro (rs_tmp hS rfl rs_nil) ?_)
 have hI := hS.inv
 exact ⟨rfl, (hI.sub sn)⟩
theorem wk55 {wm : Nat} {H : AHeap} {Fr : List Ent}  (n1 : Int)   (hI : Kn wm H [] Fr) {r : Bool} (h0 : M.value_Right_1 n1 = some r) :
  wpF Try.prog ora wm 55 [.int .i64 n1] H (fun res H => res = .bool r ∧ Kn wm H [] Fr) := by
 unfold M.value_Right_1 at h0
 refine f_enter (n := 6) Try.func55 rfl (by simp) hI rfl rfl rfl fun tm hS => ?_
 clear hI
 refine c_reg fun R hR => ?_
 refine o_pure hS (.inl rfl) rfl rfl ?_; clear hS
 intro tm hS
 refine o_nil (hR _ _ ?_)
 clear hR R
 refine c_reg fun R hR => ?_
 refine o_pure hS (.inl rfl) rfl rfl ?_; clear hS
 intro tm hS
 obtain ⟨r1, hx1, h0⟩ := bindS h0
 refine o_call hS (.inl rfl) rfl (fun wm' hw1 hw2 => wk56  n1   (hS.sel hw2) hx1) (fun wm' res H hw' hp => ?_)
 obtain ⟨hres, hI⟩ := hp
 replace hres := hres.symm; subst hres
 replace hS : S wm 6 _ H ((4, .bool r1) :: _) ([] ++ _) Fr := hS.after rfl hw' hI
 clear hI hw'
 refine o_pure hS (.inl rfl) rfl rfl ?_; clear hS
 intro tm hS
 refine o_pure hS (.inl rfl) rfl rfl ?_; clear hS
 intro tm hS
 refine o_nil (hR _ _ ?_)
 clear hR R
 refine wpC.ret ?_
 obtain rfl := Option.some.inj h0
 refine Exists.intro _ (And.intro (rs_tmp hS rfl rs_nil) ?_)
 have hI := hS.inv
 exact ⟨rfl, (hI.sub sn)⟩
theorem wk16 {wm : Nat} {H : AHeap} {Fr : List Ent}  (v1 : Val)  (v2 : Value) (v3 : Value) (hI : Kn wm H [.fz (rI .i64) v2 v1.Shape, .fz (rI .i64) v3 v1.Data] Fr) {r : Bool} (h0 : M.value_Right v1 = some r) :
  wpF Try.prog ora wm 16 [.agg #[.bool v1.Char, v2, v3]] H (fun res H => res = .bool r ∧ Kn wm H [] Fr) := by
 unfold M.value_Right at h0
 refine f_enter (n := 45) Try.func16 rfl (by simp) hI rfl rfl rfl fun tm hS => ?_
 clear hI
 refine c_reg fun R hR => ?_
 refine o_box hS (.inl rfl) rfl rfl rfl (all_cons rfl (all_cons (hS.one (k := 0) rfl (.inl rfl)) (all_cons (hS.one (k := 1) rfl (.inl rfl)) all_nil))) ?_; clear hS H
 intro b1 tm H hS
 refine o_pure hS (.inl rfl) rfl rfl ?_; clear hS
 intro tm hS
 refine o_nil (hR _ _ ?_)
 clear hR R
 refine c_seqS ?_
 refine c_reg fun R hR => ?_
 refine o_pure hS (.inl rfl) rfl rfl ?_; clear hS
 intro tm hS
 refine o_ld1 (k := 0) hS (.inl rfl) rfl rfl rfl (.inl rfl) Fu22 rfl rfl ?_; clear hS
 intro tm hS
 refine o_len (k := 1) (r := (rI .i64)) hS (.inl rfl) rfl rfl rfl (.inl rfl) Fu22 rfl ?_; clear hS
 intro tm hS
 refine o_pure hS (.inl rfl) rfl rfl ?_; clear hS
 intro tm hS
 refine o_nil (hR _ _ ?_)
 clear hR R
 refine c_cond hS rfl (fun hc => ?_) (fun hc => ?_)
 ·replace h0 := iteT hc h0
  refine c_reg fun R hR => ?_
  refine o_pure hS (.inl rfl) rfl rfl ?_; clear hS
  intro tm hS
  refine o_nil (hR _ _ ?_)
  clear hR R
  refine wpC.ret ?_
  obtain rfl := Option.some.inj h0
  refine Exists.intro _ (And.intro (rs_tmp hS rfl rs_nil) ?_)
  have hI := hS.inv
  exact ⟨rfl, (hI.sub sn)⟩
 ·replace h0 := iteF hc h0
  refine wpC.skip ?_
  refine c_reg fun R hR => ?_
  refine o_pure hS (.inl rfl) rfl rfl ?_; clear hS
  intro tm hS
  refine o_nil (hR _ _ ?_)
  clear hR R
  refine c_seqS ?_
  refine c_reg fun R hR => ?_
  refine o_pure hS (.inl rfl) rfl rfl ?_; clear hS
  intro tm hS
  refine o_ld1 (k := 0) hS (.inl rfl) rfl rfl rfl (.inl rfl) Fu22 rfl rfl ?_; clear hS
  intro tm hS
  refine o_len (k := 1) (r := (rI .i64)) hS (.inl rfl) rfl rfl rfl (.inl rfl) Fu22 rfl ?_; clear hS
  intro tm hS
  refine o_pure hS (.inl rfl) rfl rfl ?_; clear hS
  intro tm hS
  refine o_nil (hR _ _ ?_)
  clear hR R
  obtain ⟨k1, hw1, h0⟩ := bindS h0
  refine wpC.block ?_
  refine c_loop (I := fun (s : Int × Int) tm H => match (generalizing := false) s with | (size1, t1) => S wm 45 tm H [(1, .pointer (some ⟨b1, 0, none⟩)), (3, .int .i64 size1), (11, v2), (12, .int .i64 (v1.Shape.length : Int)), (13, .int .i64 t1)] [.box b1 [.bool v1.Char, v2, v3], .fz (rI .i64) v2 v1.Shape, .fz (rI .i64) v3 v1.Data] Fr) hw1 (by change S wm 45 _ _ _ _ Fr; exact hS.keep (ka_cons rfl (ka_cons rfl (ka_cons rfl (ka_cons rfl (ka_cons rfl ka_nil))))) (fun hI => (hI.sub (sc (sc (sc sn)))))) ?_
  clear hS
  intro s1 tm H c1 hS h1 hq1
  obtain ⟨size1, t1⟩ := s1
  change S wm 45 tm H [(1, .pointer (some ⟨b1, 0, none⟩)), (3, .int .i64 size1), (11, v2), (12, .int .i64 (v1.Shape.length : Int)), (13, .int .i64 t1)] [.box b1 [.bool v1.Char, v2, v3], .fz (rI .i64) v2 v1.Shape, .fz (rI .i64) v3 v1.Data] Fr at hS
  refine c_reg fun R hR => ?_
  refine o_pure hS (.inl rfl) rfl rfl ?_; clear hS
  intro tm hS
  refine o_nil (hR _ _ ?_)
  clear hR R
  refine c_seqS ?_
  refine c_cond hS rfl (fun hc => ?_) (fun hc => ?_)
  ·replace h1 := iteT hc h1
   refine wpC.skip ?_
   refine c_seqS ?_
   refine wpC.block ?_
   refine c_reg fun R hR => ?_
   obtain ⟨y1, hx1, h1⟩ := bindS h1
   refine o_ixA (k := 1) (r := (rI .i64)) hS (.inl rfl) rfl rfl rfl rfl (.inl rfl) Fu22 Fs3 hx1 ?_; clear hS
   intro tm hS
   refine o_ldF (r := (rI .i64)) (k := 1) hS (.inl rfl) rfl rfl rfl (.inl rfl) hx1 Fu3 rfl (flat_I _) rfl ?_; clear hS
   intro tm hS
   refine o_pure hS (.inl rfl) rfl rfl ?_; clear hS
   intro tm hS
   refine o_nil (hR _ _ ?_)
   clear hR R
   refine c_seqS ?_
   refine c_reg fun R hR => ?_
   refine o_pure hS (.inl rfl) rfl rfl ?_; clear hS
   intro tm hS
   refine o_pure hS (.inl rfl) rfl rfl ?_; clear hS
   intro tm hS
   refine o_pure hS (.inl rfl) rfl rfl ?_; clear hS
   intro tm hS
   obtain ⟨c2, hc1⟩ : ∃ x : Bool, x = ((decide (y1 < 0)) || (decide (y1 > 10000))) := ⟨_, rfl⟩
   refine o_cutN 3 (J := fun tm H => S wm 45 tm H [(22, .bool c2), (1, .pointer (some ⟨b1, 0, none⟩)), (3, .int .i64 size1), (11, v2), (12, .int .i64 (v1.Shape.length : Int)), (13, .int .i64 t1), (5, .int .i64 y1)] [.box b1 [.bool v1.Char, v2, v3], .fz (rI .i64) v2 v1.Shape, .fz (rI .i64) v3 v1.Data] Fr) ?_ ?_
   ·rcases Bool.eq_false_or_eq_true (decide (y1 < 0)) with hg1 | hg1
    ·refine o_skip hS rfl rfl rfl hg1 ?_; clear hS
     intro tm hS
     refine o_skip hS rfl rfl rfl hg1 ?_; clear hS
     intro tm hS
     refine o_pickT hS (.inl rfl) rfl rfl hg1 rfl ?_; clear hS
     intro tm hS
     have hc1 : c2 = true := hc1.trans (by rw [hg1]; first | rfl | simp)
     subst hc1
     exact o_nil (hS.keep (ka_cons rfl (ka_cons rfl (ka_cons rfl (ka_cons rfl (ka_cons rfl (ka_cons rfl (ka_cons rfl ka_nil))))))) (fun hI => (hI.sub (sc (sc (sc sn))))))
    ·refine o_pure hS (.inr ⟨_, _, _, _, rfl, rfl, rfl, hg1⟩) rfl rfl ?_; clear hS
     intro tm hS
     refine o_pure hS (.inr ⟨_, _, _, _, rfl, rfl, rfl, hg1⟩) rfl rfl ?_; clear hS
     intro tm hS
     refine o_pickF hS (.inl rfl) rfl rfl hg1 rfl ?_; clear hS
     intro tm hS
     have hc1 : c2 = (decide (y1 > 10000)) := hc1.trans (by rw [hg1]; first | rfl | simp)
     subst hc1
     exact o_nil (hS.keep (ka_cons rfl (ka_cons rfl (ka_cons rfl (ka_cons rfl (ka_cons rfl (ka_cons rfl (ka_cons rfl ka_nil))))))) (fun hI => (hI.sub (sc (sc (sc sn))))))
   intro tm H hS
   subst hc1
   refine o_nil (hR _ _ ?_)
   clear hR R
   refine c_cond hS rfl (fun hc => ?_) (fun hc => ?_)
   ·replace h1 := iteT hc h1
    refine c_reg fun R hR => ?_
    refine o_pure hS (.inl rfl) rfl rfl ?_; clear hS
    intro tm hS
    refine o_nil (hR _ _ ?_)
    clear hR R
    refine wpC.ret ?_
    obtain rfl := Option.some.inj h1
    obtain rfl := hq1 _ rfl
    refine And.intro rfl ?_
    obtain rfl := leave h0
    refine Exists.intro _ (And.intro (rs_tmp hS rfl rs_nil) ?_)
    have hI := hS.inv
    exact ⟨rfl, (hI.sub sn)⟩
   ·replace h1 := iteF hc h1
    refine wpC.skip ?_
    refine c_reg1 fun R hR => ?_
    refine o_pure hS (.inl rfl) rfl rfl ?_; clear hS
    intro tm hS
    refine o_pure hS (.inl rfl) rfl rfl ?_; clear hS
    intro tm hS
    refine o_pure hS (.inl rfl) rfl rfl ?_; clear hS
    intro tm hS
    refine o_pure hS (.inl rfl) rfl rfl ?_; clear hS
    intro tm hS
    refine o_nil (hR _ _ ?_)
    clear hR R
    refine c_reg1 fun R hR => ?_
    refine o_pure hS (.inl rfl) rfl rfl ?_; clear hS
    intro tm hS
    refine o_pure hS (.inl rfl) rfl rfl ?_; clear hS
    intro tm hS
    refine o_nil (hR _ _ ?_)
    clear hR R
    obtain rfl := Option.some.inj h1
    refine ⟨_, rfl, ?_⟩
    change S wm 45 _ _ _ _ Fr; exact hS.keep (ka_cons rfl (ka_cons rfl (ka_cons rfl (ka_cons rfl (ka_cons rfl ka_nil))))) (fun hI => (hI.sub (sc (sc (sc sn)))))
  ·replace h1 := iteF hc h1
   refine wpC.exit ?_
   refine seqX ?_
   obtain rfl := Option.some.inj h1
   obtain rfl := hq1 _ rfl
   refine And.intro rfl (blk_eq ?_)
   replace h0 := joinN h0
   refine c_seqS ?_
   refine c_reg fun R hR => ?_
   refine o_pure hS (.inl rfl) rfl rfl ?_; clear hS
   intro tm hS
   refine o_pure hS (.inl rfl) rfl rfl ?_; clear hS
   intro tm hS
   refine o_pure hS (.inl rfl) rfl rfl ?_; clear hS
   intro tm hS
   obtain ⟨c3, hc2⟩ : ∃ x : Bool, x = ((decide (size1 > 10000)) || (size1 != (v1.Data.length : Int))) := ⟨_, rfl⟩
   refine o_cutN 6 (J := fun tm H => S wm 45 tm H [(35, .bool c3), (1, .pointer (some ⟨b1, 0, none⟩))] [.box b1 [.bool v1.Char, v2, v3], .fz (rI .i64) v2 v1.Shape, .fz (rI .i64) v3 v1.Data] Fr) ?_ ?_
   ·rcases Bool.eq_false_or_eq_true (decide (size1 > 10000)) with hg2 | hg2
    ·refine o_skip hS rfl rfl rfl hg2 ?_; clear hS
     intro tm hS
     refine o_skip hS rfl rfl rfl hg2 ?_; clear hS
     intro tm hS
     refine o_skip hS rfl rfl rfl hg2 ?_; clear hS
     intro tm hS
     refine o_skip hS rfl rfl rfl hg2 ?_; clear hS
     intro tm hS
     refine o_skip hS rfl rfl rfl hg2 ?_; clear hS
     intro tm hS
     refine o_pickT hS (.inl rfl) rfl rfl hg2 rfl ?_; clear hS
     intro tm hS
     have hc2 : c3 = true := hc2.trans (by rw [hg2]; first | rfl | simp)
     subst hc2
     exact o_nil (hS.keep (ka_cons rfl (ka_cons rfl ka_nil)) (fun hI => (hI.sub (sc (sc (sc sn))))))
    ·refine o_pure hS (.inr ⟨_, _, _, _, rfl, rfl, rfl, hg2⟩) rfl rfl ?_; clear hS
     intro tm hS
     refine o_pure hS (.inr ⟨_, _, _, _, rfl, rfl, rfl, hg2⟩) rfl rfl ?_; clear hS
     intro tm hS
     refine o_ld1 (k := 0) hS (.inr ⟨_, _, _, _, rfl, rfl, rfl, hg2⟩) rfl rfl rfl (.inl rfl) Fu23 rfl rfl ?_; clear hS
     intro tm hS
     refine o_len (k := 2) (r := (rI .i64)) hS (.inr ⟨_, _, _, _, rfl, rfl, rfl, hg2⟩) rfl rfl rfl (.inl rfl) Fu23 rfl ?_; clear hS
     intro tm hS
     refine o_pure hS (.inr ⟨_, _, _, _, rfl, rfl, rfl, hg2⟩) rfl rfl ?_; clear hS
     intro tm hS
     refine o_pickF hS (.inl rfl) rfl rfl hg2 rfl ?_; clear hS
     intro tm hS
     have hc2 : c3 = (size1 != (v1.Data.length : Int)) := hc2.trans (by rw [hg2]; first | rfl | simp)
     subst hc2
     exact o_nil (hS.keep (ka_cons rfl (ka_cons rfl ka_nil)) (fun hI => (hI.sub (sc (sc (sc sn))))))
   intro tm H hS
   subst hc2
   refine o_nil (hR _ _ ?_)
   clear hR R
   refine c_cond hS rfl (fun hc => ?_) (fun hc => ?_)
   ·replace h0 := iteT hc h0
    refine c_reg fun R hR => ?_
    refine o_pure hS (.inl rfl) rfl rfl ?_; clear hS
    intro tm hS
    refine o_nil (hR _ _ ?_)
    clear hR R
    refine wpC.ret ?_
    obtain rfl := Option.some.inj h0
    refine Exists.intro _ (And.intro (rs_tmp hS rfl rs_nil) ?_)
    have hI := hS.inv
    exact ⟨rfl, (hI.sub sn)⟩
   ·replace h0 := iteF hc h0
    refine wpC.skip ?_
    refine c_reg fun R hR => ?_
    refine o_pure hS (.inl rfl) rfl rfl ?_; clear hS
    intro tm hS
    refine o_ld1 (k := 0) hS (.inl rfl) rfl rfl rfl (.inl rfl) Fu4 rfl rfl ?_; clear hS
    intro tm hS
    refine o_pure hS (.inl rfl) rfl rfl ?_; clear hS
    intro tm hS
    refine o_pure hS (.inl rfl) rfl rfl ?_; clear hS
    intro tm hS
    obtain ⟨c4, hc3, h0⟩ := bindS h0
    refine o_cutN 5 (J := fun tm H => S wm 45 tm H [(44, .bool c4)] [] Fr) ?_ ?_
    ·rcases Bool.eq_false_or_eq_true (!v1.Char) with hg3 | hg3
     ·replace hc3 := iteT hg3 hc3
      refine o_skip hS rfl rfl rfl hg3 ?_; clear hS
      intro tm hS
      refine o_skip hS rfl rfl rfl hg3 ?_; clear hS
      intro tm hS
      refine o_skip hS rfl rfl rfl hg3 ?_; clear hS
      intro tm hS
      refine o_skip hS rfl rfl rfl hg3 ?_; clear hS
      intro tm hS
      refine o_pickT hS (.inl rfl) rfl rfl hg3 rfl ?_; clear hS
      intro tm hS
      obtain rfl := Option.some.inj hc3
      exact o_nil (hS.keep (ka_cons rfl ka_nil) (fun hI => (hI.sub sn)))
     ·replace hc3 := iteF hg3 hc3
      refine o_pure hS (.inr ⟨_, _, _, _, rfl, rfl, rfl, hg3⟩) rfl rfl ?_; clear hS
      intro tm hS
      refine o_ld1 (k := 0) hS (.inr ⟨_, _, _, _, rfl, rfl, rfl, hg3⟩) rfl rfl rfl (.inl rfl) Fu23 rfl rfl ?_; clear hS
      intro tm hS
      obtain ⟨r1, hx2, hc3⟩ := bindS hc3
      refine o_call hS (.inr ⟨_, _, _, _, rfl, rfl, rfl, hg3⟩) rfl (fun wm' hw1 hw2 => wk54  v1.Data (fun x0 => M.value_Right_1 x0) 55 #[] [] (by simp [Ent.blk]) (fun x0 hI _ h0 => wk55  x0   hI h0) v3 ((hS.sel hw2).ad 2 rfl) hx2) (fun wm' res H hw' hp => ?_)
      obtain ⟨hres, hI⟩ := hp
      replace hres := hres.symm; subst hres
      replace hS : S wm 45 _ H ((42, .bool r1) :: _) ([] ++ _) Fr := hS.after rfl hw' hI
      clear hI hw'
      refine o_pure hS (.inr ⟨_, _, _, _, rfl, rfl, rfl, hg3⟩) rfl rfl ?_; clear hS
      intro tm hS
      refine o_pickF hS (.inl rfl) rfl rfl hg3 rfl ?_; clear hS
      intro tm hS
      obtain rfl := Option.some.inj hc3
      exact o_nil (hS.keep (ka_cons rfl ka_nil) (fun hI => (hI.sub sn)))
    intro tm H hS
    refine o_pure hS (.inl rfl) rfl rfl ?_; clear hS
    intro tm hS
    refine o_nil (hR _ _ ?_)
    clear hR R
    refine wpC.ret ?_
    obtain rfl := Option.some.inj h0
    refine Exists.intro _ (And.intro (rs_tmp hS rfl rs_nil) ?_)
    have hI := hS.inv
    exact ⟨rfl, (hI.sub sn)⟩
theorem wk74 {wm : Nat} {H : AHeap} {Fr : List Ent} (ho120 : ora 120 = false) (k1 : Int) (x1 : ByteArray) (x2 : Val)  (b1 : Nat) (v1 : Value) (v2 : Value) (b2 : Nat) (hI : Kn wm H [.fbox b1 [.string x1], .fz (rI .i64) v1 x2.Shape, .fz (rI .i64) v2 x2.Data, .fbox b2 [.bool x2.Char, v1, v2]] Fr) {r : Int × Int} (h0 : M.scalar_Monad_1 k1 x1 x2 = some r) :
  wpF Try.prog ora wm 74 [.int .i64 k1, .pointer (some ⟨b1, 0, none⟩), .pointer (some ⟨b2, 0, none⟩)] H (fun res H => res = .tuple #[.int .i64 r.1, .int .i64 r.2] ∧ Kn wm H [] Fr) := by
 unfold M.scalar_Monad_1 at h0
 refine f_enter (n := 15) Try.func74 rfl (by simp) hI rfl rfl rfl fun tm hS => ?_
 clear hI
 refine c_reg fun R hR => ?_
 refine o_pure hS (.inl rfl) rfl rfl ?_; clear hS
 intro tm hS
 refine o_pure hS (.inl rfl) rfl rfl ?_; clear hS
 intro tm hS
 refine o_nil (hR _ _ ?_)
 clear hR R
 refine c_reg fun R hR => ?_
 refine o_ld1 (k := 0) hS (.inl rfl) rfl rfl rfl (.inr rfl) Fu9 rfl rfl ?_; clear hS
 intro tm hS
 refine o_pure hS (.inl rfl) rfl rfl ?_; clear hS
 intro tm hS
 refine o_ld1 (k := 3) hS (.inl rfl) rfl rfl rfl (.inr rfl) Fu23 rfl rfl ?_; clear hS
 intro tm hS
 refine o_pure hS (.inl rfl) rfl rfl ?_; clear hS
 intro tm hS
 obtain ⟨y1, hx1, h0⟩ := bindS h0
 refine o_ixA (k := 2) (r := (rI .i64)) hS (.inl rfl) rfl rfl rfl rfl (.inl rfl) Fu23 Fs2 hx1 ?_; clear hS
 intro tm hS
 refine o_ldF (r := (rI .i64)) (k := 2) hS (.inl rfl) rfl rfl rfl (.inl rfl) hx1 Fu2 rfl (flat_I _) rfl ?_; clear hS
 intro tm hS
 obtain ⟨⟨r1, r2⟩, hx2, h0⟩ := bindS h0
 refine o_call hS (.inl rfl) rfl (fun wm' hw1 hw2 => wk73 ho120 x1 y1   (hS.sel hw2) hx2) (fun wm' res H hw' hp => ?_)
 obtain ⟨hres, hI⟩ := hp
 replace hres := hres.symm; subst hres
 replace hS : S wm 15 _ H ((12, .tuple #[.int .i64 r1, .int .i64 r2]) :: _) ([] ++ _) Fr := hS.after rfl hw' hI
 clear hI hw'
 refine o_pure hS (.inl rfl) rfl rfl ?_; clear hS
 intro tm hS
 refine o_pure hS (.inl rfl) rfl rfl ?_; clear hS
 intro tm hS
 refine o_pure hS (.inl rfl) rfl rfl ?_; clear hS
 intro tm hS
 refine o_pure hS (.inl rfl) rfl rfl ?_; clear hS
 intro tm hS
 refine o_nil (hR _ _ ?_)
 clear hR R
 refine wpC.ret ?_
 obtain rfl := Option.some.inj h0
 refine Exists.intro _ (And.intro (rs_tmp hS rfl (rs_tmp hS rfl rs_nil)) ?_)
 have hI := hS.inv
 exact ⟨rfl, (hI.sub sn)⟩
theorem wk82 {wm : Nat} {H : AHeap} {Fr : List Ent} (s1 : (List Int)) (v1 : Value) (hI : Kn wm H [.fz (rI .i64) v1 s1] Fr) {r : (List Int)} (h0 : M.slices_Clone__int s1 = some r) :
  wpF Try.prog ora wm 82 [v1] H (fun res H => ∃ v2, res = v2 ∧ Kn wm H [.own (rI .i64) v2 r] Fr) := by
 unfold M.slices_Clone__int at h0
 refine f_enter (n := 8) Try.func82 rfl (by simp) hI rfl rfl rfl fun tm hS => ?_
 refine c_reg fun R hR => ?_
 refine o_pure hS (.inl rfl) rfl rfl fun tm hS => ?_
 refine o_nil (hR _ _ ?_)
 refine c_seqS ?_
 refine c_reg fun R hR => ?_
 refine o_pure hS (.inl rfl) rfl rfl fun tm hS => ?_
 refine o_nilcmp (k := 0) (r := (rI .i64)) hS (.inl rfl) rfl rfl rfl rfl (.inl rfl) Fu22 (fun hl tm hS => ?_) (fun tm hS => ?_)
 ·subst hl
  have hr : r = [] := by simpa [app] using h0.symm
  subst hr
  refine o_nil (hR _ _ ?_)
  refine c_cond hS rfl (fun _ => ?_) (fun h => by cases h)
  refine c_reg fun R hR => ?_
  refine o_pure hS (.inl rfl) rfl rfl fun tm hS => ?_
  refine o_nil (hR _ _ ?_)
  refine wpC.ret ?_
  replace hS := hS.nilOwn (rI .i64)
  refine Exists.intro _ (And.intro (rs_tmp hS rfl rs_nil) ?_)
  exact ⟨_, rfl, hS.inv.take 1⟩
 ·refine o_nil (hR _ _ ?_)
  refine c_cond hS rfl (fun h => by cases h) (fun _ => ?_)
  refine wpC.skip ?_
  refine c_reg fun R hR => ?_
  refine o_lit (r := (rI .i64)) (l := []) hS (.inl rfl) rfl Fl22 rfl rfl rfl .nil rfl rfl ri_nil rfl fun v2 tm H hS => ?_
  refine o_pure hS (.inl rfl) rfl rfl fun tm hS => ?_
  refine o_appL (k1 := 0) (k2 := 1) (r := (rI .i64)) hS (.inl rfl) rfl rfl rfl rfl rfl (.inl rfl) rfl Fe22_22 h0 fun v3 tm H hS => ?_
  refine o_pure hS (.inl rfl) rfl rfl fun tm hS => ?_
  refine o_nil (hR _ _ ?_)
  refine wpC.ret ?_
  refine Exists.intro _ (And.intro (rs_tmp hS rfl rs_nil) ?_)
  exact ⟨_, rfl, hS.inv.take 1⟩
theorem wk49 {wm : Nat} {H : AHeap} {Fr : List Ent}  (shape1 : (List Int)) (n1 : Int) (told1 : (Int → Option (Int × Int))) (gfn2 : FuncId) (gcap2 : Array Value) (E : List Ent) (hE : ∀ e ∈ E, e.blk = none) (hf : ∀ {wm : Nat} {H : AHeap} {Fr : List Ent} (y0 : Int) , Kn wm H (E) Fr → ∀ {r : Int × Int}, told1 y0 = some r → wpF Try.prog ora wm gfn2 ([.int .i64 y0] ++ gcap2.toList) H (fun res H => res = .tuple #[.int .i64 r.1, .int .i64 r.2] ∧ Kn wm H [] Fr)) (v1 : Value) (hI : Kn wm H (.fz (rI .i64) v1 shape1 :: E) Fr) {r : Val × Int} (h0 : M.scalar_made shape1 n1 told1 = some r) :
  wpF Try.prog ora wm 49 [v1, .int .i64 n1, .func (.func gfn2) #[] gcap2] H (fun res H => ∃ v4 v5, res = .tuple #[.agg #[.bool r.1.Char, v4, v5], .int .i64 r.2] ∧ Kn wm H [.own (rI .i64) v4 r.1.Shape, .own (rI .i64) v5 r.1.Data] Fr) := by
 unfold M.scalar_made at h0
 refine f_enter (n := 38) Try.func49 rfl (by simp) hI rfl rfl rfl fun tm hS => ?_
 clear hI
 refine c_reg fun R hR => ?_
 refine o_alloc hS (.inl rfl) rfl Fz27 (by decide) ?_; clear hS H
 intro b1 tm H hS
 refine o_pure hS (.inl rfl) rfl rfl ?_; clear hS
 intro tm hS
 refine o_nil (hR _ _ ?_)
 clear hR R
 refine c_reg fun R hR => ?_
 refine o_pure hS (.inl rfl) rfl rfl ?_; clear hS
 intro tm hS
 obtain ⟨r1, hx1, h0⟩ := bindS h0
 refine o_call hS (.inl rfl) rfl (fun wm' hw1 hw2 => wk82  shape1  v1 ((hS.sel hw2).ad 1 rfl) hx1) (fun wm' res H hw' hp => ?_)
 obtain ⟨v2, hres, hI⟩ := hp
 replace hres := hres.symm; subst hres
 replace hS : S wm 38 _ H ((13, v2) :: _) ([.own (rI .i64) v2 r1] ++ _) Fr := hS.after rfl hw' hI
 clear hI hw'
 refine o_pure hS (.inl rfl) rfl rfl ?_; clear hS
 intro tm hS
 obtain ⟨l1, hx2, h0⟩ := bindS h0
 refine o_mk (r := (rI .i64)) hS (.inl rfl) rfl rfl rfl Fm23 rfl (fun _ => rfl) hx2 ?_; clear hS H
 intro v3 tm H hS
 refine o_build hS (.inl rfl) rfl Fb27 rfl (.cons (cells_one (hS.one (k := 1) rfl (.inr (.inl rfl)))) (.cons (cells_one (hS.one (k := 0) rfl (.inr (.inl rfl)))) .nil)) rfl ?_; clear hS
 intro tm hS
 refine o_alloc hS (.inl rfl) rfl Fz27 (by decide) ?_; clear hS H
 intro b2 tm H hS
 refine o_st (k := 0) hS (.inl rfl) rfl rfl rfl Fs27 rfl rfl (all_cons rfl (all_cons (hS.one (k := 2) rfl (.inr (.inl rfl))) (all_cons (hS.one (k := 1) rfl (.inr (.inl rfl))) all_nil))) rfl ?_; clear hS; try clear H
 intro H hS
 refine o_nil (hR _ _ ?_)
 clear hR R
 refine c_seqS ?_
 refine c_reg fun R hR => ?_
 refine o_pure hS (.inl rfl) rfl rfl ?_; clear hS
 intro tm hS
 refine o_pure hS (.inl rfl) rfl rfl ?_; clear hS
 intro tm hS
 refine o_nil (hR _ _ ?_)
 clear hR R
 obtain ⟨k1, hw1, h0⟩ := bindS h0
 refine wpC.block ?_
 refine c_loop (I := fun (s : Int × (List Int)) tm H => match (generalizing := false) s with | (t1, l2) => S wm 38 tm H [(2, .func (.func gfn2) #[] gcap2), (6, .pointer (some ⟨b1, 0, none⟩)), (8, .pointer (some ⟨b2, 0, none⟩)), (17, .int .i64 n1), (18, .int .i64 t1)] (.box b1 [.bool false, (.slice none 0 0), (.slice none 0 0)] :: .box b2 [.bool false, v2, v3] :: .own (rI .i64) v2 r1 :: .own (rI .i64) v3 l2 :: E) Fr) hw1 (by change S wm 38 _ _ _ _ Fr; exact hS.keep (ka_cons rfl (ka_cons rfl (ka_cons rfl (ka_cons rfl (ka_cons rfl ka_nil))))) (fun hI => (((((hI.pull 1 rfl).pull 2 rfl).pull 2 rfl).pull 3 rfl).sub (sc (sc (sc (sc (sd sr)))))))) ?_
 clear hS
 intro s1 tm H c1 hS h1 hq1
 obtain ⟨t1, l2⟩ := s1
 change S wm 38 tm H [(2, .func (.func gfn2) #[] gcap2), (6, .pointer (some ⟨b1, 0, none⟩)), (8, .pointer (some ⟨b2, 0, none⟩)), (17, .int .i64 n1), (18, .int .i64 t1)] (.box b1 [.bool false, (.slice none 0 0), (.slice none 0 0)] :: .box b2 [.bool false, v2, v3] :: .own (rI .i64) v2 r1 :: .own (rI .i64) v3 l2 :: E) Fr at hS
 refine c_reg fun R hR => ?_
 refine o_pure hS (.inl rfl) rfl rfl ?_; clear hS
 intro tm hS
 refine o_nil (hR _ _ ?_)
 clear hR R
 refine c_seqS ?_
 refine c_cond hS rfl (fun hc => ?_) (fun hc => ?_)
 ·replace h1 := iteT hc h1
  refine wpC.skip ?_
  refine c_seqS ?_
  refine wpC.block ?_
  refine c_reg fun R hR => ?_
  refine o_pure hS (.inl rfl) rfl rfl ?_; clear hS
  intro tm hS
  refine o_pure hS (.inl rfl) rfl rfl ?_; clear hS
  intro tm hS
  refine o_nil (hR _ _ ?_)
  clear hR R
  refine c_reg fun R hR => ?_
  refine o_pure hS (.inl rfl) rfl rfl ?_; clear hS
  intro tm hS
  refine o_pure hS (.inl rfl) rfl rfl ?_; clear hS
  intro tm hS
  obtain ⟨⟨r2, r3⟩, hx3, h1⟩ := bindS h1
  refine o_call hS (.inl rfl) rfl (fun wm' hw1 hw2 => hf t1  ((hS.sel hw2).adAll hE (fun e he => List.mem_cons_of_mem _ (List.mem_cons_of_mem _ (List.mem_cons_of_mem _ (List.mem_cons_of_mem _ (he)))))) hx3) (fun wm' res H hw' hp => ?_)
  obtain ⟨hres, hI⟩ := hp
  replace hres := hres.symm; subst hres
  replace hS : S wm 38 _ H ((24, .tuple #[.int .i64 r2, .int .i64 r3]) :: _) ([] ++ _) Fr := hS.after rfl hw' hI
  clear hI hw'
  refine o_pure hS (.inl rfl) rfl rfl ?_; clear hS
  intro tm hS
  refine o_pure hS (.inl rfl) rfl rfl ?_; clear hS
  intro tm hS
  refine o_pure hS (.inl rfl) rfl rfl ?_; clear hS
  intro tm hS
  refine o_pure hS (.inl rfl) rfl rfl ?_; clear hS
  intro tm hS
  refine o_pure hS (.inl rfl) rfl rfl ?_; clear hS
  intro tm hS
  refine o_nil (hR _ _ ?_)
  clear hR R
  refine c_seqS ?_
  refine c_reg fun R hR => ?_
  refine o_pure hS (.inl rfl) rfl rfl ?_; clear hS
  intro tm hS
  refine o_pure hS (.inl rfl) rfl rfl ?_; clear hS
  intro tm hS
  refine o_nil (hR _ _ ?_)
  clear hR R
  refine c_cond hS rfl (fun hc => ?_) (fun hc => ?_)
  ·replace h1 := iteT hc h1
   refine c_reg fun R hR => ?_
   refine o_build hS (.inl rfl) rfl Fb27 rfl .nil rfl ?_; clear hS
   intro tm hS
   refine o_pure hS (.inl rfl) rfl rfl ?_; clear hS
   intro tm hS
   refine o_st (k := 0) hS (.inl rfl) rfl rfl rfl Fs27 rfl rfl (all_cons rfl (all_cons rfl (all_cons rfl all_nil))) rfl ?_; clear hS; try clear H
   intro H hS
   refine o_pure hS (.inl rfl) rfl rfl ?_; clear hS
   intro tm hS
   refine o_nil (hR _ _ ?_)
   clear hR R
   refine wpC.ret ?_
   obtain rfl := Option.some.inj h1
   obtain rfl := hq1 _ rfl
   refine And.intro rfl ?_
   obtain rfl := leave h0
   replace hS := hS.nilOwn (rI .i64)
   replace hS := hS.nilOwn (rI .i64)
   refine Exists.intro _ (And.intro (rs_cellA (k := 2) hS rfl rfl (.inl rfl) Fu27 rfl Fs27 rfl (rs_tmp hS rfl rs_nil)) ?_)
   have hI := hS.inv
   exact ⟨(.slice none 0 0), (.slice none 0 0), rfl, (((hI.pull 0 rfl).pull 1 rfl).take 2)⟩
  ·replace h1 := iteF hc h1
   refine wpC.skip ?_
   refine c_reg1 fun R hR => ?_
   refine o_pure hS (.inl rfl) rfl rfl ?_; clear hS
   intro tm hS
   refine o_ld1 (k := 1) hS (.inl rfl) rfl rfl rfl (.inl rfl) Fu23 rfl rfl ?_; clear hS
   intro tm hS
   refine o_pure hS (.inl rfl) rfl rfl ?_; clear hS
   intro tm hS
   refine o_pure hS (.inl rfl) rfl rfl ?_; clear hS
   intro tm hS
   obtain ⟨y1, hx4, h1⟩ := bindS h1
   refine o_ixA (k := 3) (r := (rI .i64)) hS (.inl rfl) rfl rfl rfl rfl (.inr (.inl rfl)) Fu23 Fs2 hx4 ?_; clear hS
   intro tm hS
   obtain ⟨l3, hx5, h1⟩ := bindS h1
   refine o_stE (k := 3) (r := (rI .i64)) hS (.inl rfl) rfl rfl rfl Fs2 rfl rfl (rd_flat fun _ => rfl) hx5 ?_; clear hS; try clear H
   intro H hS
   refine o_nil (hR _ _ ?_)
   clear hR R
   refine c_reg1 fun R hR => ?_
   refine o_pure hS (.inl rfl) rfl rfl ?_; clear hS
   intro tm hS
   refine o_pure hS (.inl rfl) rfl rfl ?_; clear hS
   intro tm hS
   refine o_nil (hR _ _ ?_)
   clear hR R
   obtain rfl := Option.some.inj h1
   refine ⟨_, rfl, ?_⟩
   change S wm 38 _ _ _ _ Fr; exact hS.keep (ka_cons rfl (ka_cons rfl (ka_cons rfl (ka_cons rfl (ka_cons rfl ka_nil))))) (fun hI => (hI.sub (sc (sc (sc (sc sr))))))
 ·replace h1 := iteF hc h1
  refine wpC.exit ?_
  refine seqX ?_
  obtain rfl := Option.some.inj h1
  obtain rfl := hq1 _ rfl
  refine And.intro rfl (blk_eq ?_)
  replace h0 := joinN h0
  refine c_reg fun R hR => ?_
  refine o_ldA (k := 1) hS (.inl rfl) rfl rfl rfl (.inl rfl) Fu27 rfl Fs27 rfl ?_; clear hS
  intro tm hS
  refine o_st (k := 0) hS (.inl rfl) rfl rfl rfl Fs27 rfl rfl (all_cons rfl (all_cons (hS.one (k := 2) rfl (.inr (.inl rfl))) (all_cons (hS.one (k := 3) rfl (.inr (.inl rfl))) all_nil))) rfl ?_; clear hS; try clear H
  intro H hS
  refine o_pure hS (.inl rfl) rfl rfl ?_; clear hS
  intro tm hS
  refine o_nil (hR _ _ ?_)
  clear hR R
  refine wpC.ret ?_
  obtain rfl := Option.some.inj h0
  refine Exists.intro _ (And.intro (rs_cellA (k := 0) hS rfl rfl (.inl rfl) Fu27 rfl Fs27 rfl (rs_tmp hS rfl rs_nil)) ?_)
  have hI := hS.inv
  exact ⟨v2, v3, rfl, (hI.sub (sd (sd (sc (sc sn)))))⟩
theorem wk39 {wm : Nat} {H : AHeap} {Fr : List Ent} (ho120 : ora 120 = false) (fn1 : ByteArray) (b1 : Val)  (v1 : Value) (v2 : Value) (hI : Kn wm H [.fz (rI .i64) v1 b1.Shape, .fz (rI .i64) v2 b1.Data] Fr) {r : Val × Int} (h0 : M.scalar_Monad fn1 b1 = some r) :
  wpF Try.prog ora wm 39 [.string fn1, .agg #[.bool b1.Char, v1, v2]] H (fun res H => ∃ v5 v6, res = .tuple #[.agg #[.bool r.1.Char, v5, v6], .int .i64 r.2] ∧ Kn wm H [.own (rI .i64) v5 r.1.Shape, .own (rI .i64) v6 r.1.Data] Fr) := by
 unfold M.scalar_Monad at h0
 refine f_enter (n := 36) Try.func39 rfl (by simp) hI rfl rfl rfl fun tm hS => ?_
 clear hI
 refine c_reg fun R hR => ?_
 refine o_box hS (.inl rfl) rfl rfl rfl (all_cons rfl all_nil) ?_; clear hS H
 intro b2 tm H hS
 refine o_box hS (.inl rfl) rfl rfl rfl (all_cons rfl (all_cons (hS.one (k := 1) rfl (.inl rfl)) (all_cons (hS.one (k := 2) rfl (.inl rfl)) all_nil))) ?_; clear hS H
 intro b3 tm H hS
 refine o_alloc hS (.inl rfl) rfl Fz27 (by decide) ?_; clear hS H
 intro b4 tm H hS
 refine o_pure hS (.inl rfl) rfl rfl ?_; clear hS
 intro tm hS
 refine o_nil (hR _ _ ?_)
 clear hR R
 refine c_reg fun R hR => ?_
 refine o_ld1 (k := 2) hS (.inl rfl) rfl rfl rfl (.inl rfl) Fu9 rfl rfl ?_; clear hS
 intro tm hS
 obtain ⟨⟨r1, r2⟩, hx1, h0⟩ := bindS h0
 refine o_call hS (.inl rfl) rfl (fun wm' hw1 hw2 => wk73 ho120 fn1 0   (hS.sel hw2) hx1) (fun wm' res H hw' hp => ?_)
 obtain ⟨hres, hI⟩ := hp
 replace hres := hres.symm; subst hres
 replace hS : S wm 36 _ H ((10, .tuple #[.int .i64 r1, .int .i64 r2]) :: _) ([] ++ _) Fr := hS.after rfl hw' hI
 clear hI hw'
 refine o_pure hS (.inl rfl) rfl rfl ?_; clear hS
 intro tm hS
 refine o_pure hS (.inl rfl) rfl rfl ?_; clear hS
 intro tm hS
 refine o_pure hS (.inl rfl) rfl rfl ?_; clear hS
 intro tm hS
 refine o_pure hS (.inl rfl) rfl rfl ?_; clear hS
 intro tm hS
 refine o_pure hS (.inl rfl) rfl rfl ?_; clear hS
 intro tm hS
 refine o_nil (hR _ _ ?_)
 clear hR R
 refine c_seqS ?_
 refine wpC.block ?_
 refine c_reg fun R hR => ?_
 refine o_pure hS (.inl rfl) rfl rfl ?_; clear hS
 intro tm hS
 refine o_pure hS (.inl rfl) rfl rfl ?_; clear hS
 intro tm hS
 refine o_pure hS (.inl rfl) rfl rfl ?_; clear hS
 intro tm hS
 refine o_nil (hR _ _ ?_)
 clear hR R
 refine c_cond hS rfl (fun hc => ?_) (fun hc => ?_)
 ·replace h0 := iteT hc h0
  refine c_reg fun R hR => ?_
  refine o_build hS (.inl rfl) rfl Fb27 rfl .nil rfl ?_; clear hS
  intro tm hS
  refine o_pure hS (.inl rfl) rfl rfl ?_; clear hS
  intro tm hS
  refine o_st (k := 0) hS (.inl rfl) rfl rfl rfl Fs27 rfl rfl (all_cons rfl (all_cons rfl (all_cons rfl all_nil))) rfl ?_; clear hS; try clear H
  intro H hS
  refine o_pure hS (.inl rfl) rfl rfl ?_; clear hS
  intro tm hS
  refine o_nil (hR _ _ ?_)
  clear hR R
  refine wpC.ret ?_
  obtain rfl := Option.some.inj h0
  replace hS := hS.nilOwn (rI .i64)
  replace hS := hS.nilOwn (rI .i64)
  refine Exists.intro _ (And.intro (rs_cellA (k := 2) hS rfl rfl (.inl rfl) Fu27 rfl Fs27 rfl (rs_tmp hS rfl rs_nil)) ?_)
  have hI := hS.inv
  exact ⟨(.slice none 0 0), (.slice none 0 0), rfl, (((hI.pull 0 rfl).pull 1 rfl).take 2)⟩
 ·replace h0 := iteF hc h0
  refine c_reg fun R hR => ?_
  refine o_ldA (k := 1) hS (.inl rfl) rfl rfl rfl (.inl rfl) Fu27 rfl Fs27 rfl ?_; clear hS
  intro tm hS
  obtain ⟨r3, hx2, h0⟩ := bindS h0
  refine o_call hS (.inl rfl) rfl (fun wm' hw1 hw2 => wk16  b1  v1 v2 (((hS.sel hw2).ad 4 rfl).ad 3 rfl) hx2) (fun wm' res H hw' hp => ?_)
  obtain ⟨hres, hI⟩ := hp
  replace hres := hres.symm; subst hres
  replace hS : S wm 36 _ H ((20, .bool r3) :: _) ([] ++ _) Fr := hS.after rfl hw' hI
  clear hI hw'
  refine o_pure hS (.inl rfl) rfl rfl ?_; clear hS
  intro tm hS
  refine o_pure hS (.inl rfl) rfl rfl ?_; clear hS
  intro tm hS
  refine o_nil (hR _ _ ?_)
  clear hR R
  refine c_cond hS rfl (fun hc => ?_) (fun hc => ?_)
  ·replace h0 := iteT hc h0
   refine c_reg fun R hR => ?_
   refine o_build hS (.inl rfl) rfl Fb27 rfl .nil rfl ?_; clear hS
   intro tm hS
   refine o_st (k := 0) hS (.inl rfl) rfl rfl rfl Fs27 rfl rfl (all_cons rfl (all_cons rfl (all_cons rfl all_nil))) rfl ?_; clear hS; try clear H
   intro H hS
   refine o_pure hS (.inl rfl) rfl rfl ?_; clear hS
   intro tm hS
   refine o_nil (hR _ _ ?_)
   clear hR R
   refine wpC.ret ?_
   obtain rfl := Option.some.inj h0
   replace hS := hS.nilOwn (rI .i64)
   replace hS := hS.nilOwn (rI .i64)
   refine Exists.intro _ (And.intro (rs_cellA (k := 2) hS rfl rfl (.inl rfl) Fu27 rfl Fs27 rfl (rs_tmp hS rfl rs_nil)) ?_)
   have hI := hS.inv
   exact ⟨(.slice none 0 0), (.slice none 0 0), rfl, (((hI.pull 0 rfl).pull 1 rfl).take 2)⟩
  ·replace h0 := iteF hc h0
   refine c_reg fun R hR => ?_
   refine o_pure hS (.inl rfl) rfl rfl ?_; clear hS
   intro tm hS
   refine o_ld1 (k := 1) hS (.inl rfl) rfl rfl rfl (.inl rfl) Fu4 rfl rfl ?_; clear hS
   intro tm hS
   refine o_pure hS (.inl rfl) rfl rfl ?_; clear hS
   intro tm hS
   refine o_nil (hR _ _ ?_)
   clear hR R
   refine c_cond hS rfl (fun hc => ?_) (fun hc => ?_)
   ·replace h0 := iteT hc h0
    refine c_reg fun R hR => ?_
    refine o_build hS (.inl rfl) rfl Fb27 rfl .nil rfl ?_; clear hS
    intro tm hS
    refine o_st (k := 0) hS (.inl rfl) rfl rfl rfl Fs27 rfl rfl (all_cons rfl (all_cons rfl (all_cons rfl all_nil))) rfl ?_; clear hS; try clear H
    intro H hS
    refine o_pure hS (.inl rfl) rfl rfl ?_; clear hS
    intro tm hS
    refine o_nil (hR _ _ ?_)
    clear hR R
    refine wpC.ret ?_
    obtain rfl := Option.some.inj h0
    replace hS := hS.nilOwn (rI .i64)
    replace hS := hS.nilOwn (rI .i64)
    refine Exists.intro _ (And.intro (rs_cellA (k := 2) hS rfl rfl (.inl rfl) Fu27 rfl Fs27 rfl (rs_tmp hS rfl rs_nil)) ?_)
    have hI := hS.inv
    exact ⟨(.slice none 0 0), (.slice none 0 0), rfl, (((hI.pull 0 rfl).pull 1 rfl).take 2)⟩
   ·replace h0 := iteF hc h0
    refine wpC.skip ?_
    refine c_reg fun R hR => ?_
    refine o_pure hS (.inl rfl) rfl rfl ?_; clear hS
    intro tm hS
    refine o_ld1 (k := 1) hS (.inl rfl) rfl rfl rfl (.inl rfl) Fu22 rfl rfl ?_; clear hS
    intro tm hS
    refine o_pure hS (.inl rfl) rfl rfl ?_; clear hS
    intro tm hS
    refine o_ld1 (k := 1) hS (.inl rfl) rfl rfl rfl (.inl rfl) Fu23 rfl rfl ?_; clear hS
    intro tm hS
    refine o_len (k := 4) (r := (rI .i64)) hS (.inl rfl) rfl rfl rfl (.inl rfl) Fu23 rfl ?_; clear hS
    intro tm hS
    refine o_pure hS (.inl rfl) rfl rfl ?_; clear hS
    intro tm hS
    replace hS := hS.frzBox (k := 2) rfl
    replace hS := hS.frzBox (k := 1) rfl
    obtain ⟨⟨r4, r5⟩, hx3, h0⟩ := bindS h0
    refine o_call hS (.inl rfl) rfl (fun wm' hw1 hw2 => wk49  b1.Shape (b1.Data.length : Int) (fun x0 => M.scalar_Monad_1 x0 fn1 b1) 74 #[.pointer (some ⟨b2, 0, none⟩), .pointer (some ⟨b3, 0, none⟩)] [.fbox b2 [.string fn1], .fz (rI .i64) v1 b1.Shape, .fz (rI .i64) v2 b1.Data, .fbox b3 [.bool b1.Char, v1, v2]] (by simp [Ent.blk]) (fun x0 hI _ h0 => wk74 ho120 x0 fn1 b1  b2 v1 v2 b3 hI h0) v1 ((((((hS.sel hw2).adB 1 rfl).ad 4 rfl).ad 3 rfl).adB 2 rfl).ad 3 rfl) hx3) (fun wm' res H hw' hp => ?_)
    obtain ⟨v3, v4, hres, hI⟩ := hp
    replace hres := hres.symm; subst hres
    replace hS : S wm 36 _ H ((33, .tuple #[.agg #[.bool r4.Char, v3, v4], .int .i64 r5]) :: _) ([.own (rI .i64) v3 r4.Shape, .own (rI .i64) v4 r4.Data] ++ _) Fr := hS.after rfl hw' hI
    clear hI hw'
    refine o_pure hS (.inl rfl) rfl rfl ?_; clear hS
    intro tm hS
    refine o_pure hS (.inl rfl) rfl rfl ?_; clear hS
    intro tm hS
    refine o_st (k := 2) hS (.inl rfl) rfl rfl rfl Fs27 rfl rfl (all_cons rfl (all_cons (hS.one (k := 0) rfl (.inr (.inl rfl))) (all_cons (hS.one (k := 1) rfl (.inr (.inl rfl))) all_nil))) rfl ?_; clear hS; try clear H
    intro H hS
    refine o_pure hS (.inl rfl) rfl rfl ?_; clear hS
    intro tm hS
    refine o_nil (hR _ _ ?_)
    clear hR R
    refine wpC.ret ?_
    obtain rfl := Option.some.inj h0
    refine Exists.intro _ (And.intro (rs_cellA (k := 2) hS rfl rfl (.inl rfl) Fu27 rfl Fs27 rfl (rs_tmp hS rfl rs_nil)) ?_)
    have hI := hS.inv
    exact ⟨v3, v4, rfl, (hI.sub (sc (sc sn)))⟩
theorem wk76 {wm : Nat} {H : AHeap} {Fr : List Ent} (ho76 : ora 76 = false)    (hI : Kn wm H [] Fr) {r : (List ByteArray)} (h0 : M.anamnesisref01_Monads = some r) :
  wpF Try.prog ora wm 76 [] H (fun res H => ∃ v2, res = v2 ∧ Kn wm H [.own rS v2 r] Fr) := by
 unfold M.anamnesisref01_Monads at h0
 refine f_enter (n := 2) Try.func76 rfl (by simp [ho76]) hI rfl rfl rfl fun tm hS => ?_
 clear hI
 refine c_reg fun R hR => ?_
 refine o_pure hS (.inl rfl) rfl rfl ?_; clear hS
 intro tm hS
 refine o_nil (hR _ _ ?_)
 clear hR R
 refine c_reg fun R hR => ?_
 refine o_lit (r := rS) (l := [str_43, str_45, str_195_151, str_195_183, str_42, str_124, str_226_140_136, str_226_140_138, str_33, str_126]) hS (.inl rfl) rfl Fl24 rfl rfl rfl (.cons rfl (.cons rfl (.cons rfl (.cons rfl (.cons rfl (.cons rfl (.cons rfl (.cons rfl (.cons rfl (.cons rfl .nil)))))))))) rfl rfl (ri_1 (rd_flat fun _ => rfl) (ri_1 (rd_flat fun _ => rfl) (ri_1 (rd_flat fun _ => rfl) (ri_1 (rd_flat fun _ => rfl) (ri_1 (rd_flat fun _ => rfl) (ri_1 (rd_flat fun _ => rfl) (ri_1 (rd_flat fun _ => rfl) (ri_1 (rd_flat fun _ => rfl) (ri_1 (rd_flat fun _ => rfl) (ri_1 (rd_flat fun _ => rfl) ri_nil)))))))))) rfl ?_; clear hS H
 intro v1 tm H hS
 refine o_pure hS (.inl rfl) rfl rfl ?_; clear hS
 intro tm hS
 refine o_nil (hR _ _ ?_)
 clear hR R
 refine wpC.ret ?_
 obtain rfl := Option.some.inj h0
 replace hS := hS.litOwn (k := 0) rfl
 refine Exists.intro _ (And.intro (rs_tmp hS rfl rs_nil) ?_)
 have hI := hS.inv
 exact ⟨v1, rfl, (hI.sub (sc sn))⟩
theorem wk47 {wm : Nat} {H : AHeap} {Fr : List Ent}  (l1 : (List ByteArray)) (fn1 : ByteArray)  (v1 : Value) (hI : Kn wm H [.fz rS v1 l1] Fr) {r : Bool} (h0 : M.anamnesisref01_In l1 fn1 = some r) :
  wpF Try.prog ora wm 47 [v1, .string fn1] H (fun res H => res = .bool r ∧ Kn wm H [] Fr) := by
 unfold M.anamnesisref01_In at h0
 refine f_enter (n := 18) Try.func47 rfl (by simp) hI rfl rfl rfl fun tm hS => ?_
 clear hI
 refine c_reg fun R hR => ?_
 refine o_pure hS (.inl rfl) rfl rfl ?_; clear hS
 intro tm hS
 refine o_nil (hR _ _ ?_)
 clear hR R
 refine c_seqS ?_
 refine c_reg fun R hR => ?_
 refine o_pure hS (.inl rfl) rfl rfl ?_; clear hS
 intro tm hS
 refine o_nil (hR _ _ ?_)
 clear hR R
 obtain ⟨k1, hw1, h0⟩ := bindS h0
 refine wpC.block ?_
 refine c_loop (I := fun (s : Int) tm H => match (generalizing := false) s with | i1 => S wm 18 tm H [(0, v1), (1, .string fn1), (5, .int .i64 i1)] [.fz rS v1 l1] Fr) hw1 (by change S wm 18 _ _ _ _ Fr; exact hS.keep (ka_cons rfl (ka_cons rfl (ka_cons rfl ka_nil))) (fun hI => (hI.sub (sc sn)))) ?_
 clear hS
 intro i1 tm H c1 hS h1 hq1
 change S wm 18 tm H [(0, v1), (1, .string fn1), (5, .int .i64 i1)] [.fz rS v1 l1] Fr at hS
 refine c_seqS ?_
 refine c_reg fun R hR => ?_
 refine o_pure hS (.inl rfl) rfl rfl ?_; clear hS
 intro tm hS
 refine o_pure hS (.inl rfl) rfl rfl ?_; clear hS
 intro tm hS
 refine o_len (k := 0) (r := rS) hS (.inl rfl) rfl rfl rfl (.inl rfl) Fu24 rfl ?_; clear hS
 intro tm hS
 refine o_pure hS (.inl rfl) rfl rfl ?_; clear hS
 intro tm hS
 refine o_nil (hR _ _ ?_)
 clear hR R
 refine c_cond hS rfl (fun hc => ?_) (fun hc => ?_)
 ·replace h1 := iteT hc h1
  refine wpC.skip ?_
  refine c_seqS ?_
  refine wpC.block ?_
  refine c_reg fun R hR => ?_
  refine o_pure hS (.inl rfl) rfl rfl ?_; clear hS
  intro tm hS
  refine o_pure hS (.inl rfl) rfl rfl ?_; clear hS
  intro tm hS
  obtain ⟨y1, hx1, h1⟩ := bindS h1
  refine o_ixA (k := 0) (r := rS) hS (.inl rfl) rfl rfl rfl rfl (.inl rfl) Fu24 Fs9 hx1 ?_; clear hS
  intro tm hS
  refine o_ldF (r := rS) (k := 0) hS (.inl rfl) rfl rfl rfl (.inl rfl) hx1 Fu9 rfl flat_S rfl ?_; clear hS
  intro tm hS
  refine o_pure hS (.inl rfl) rfl rfl ?_; clear hS
  intro tm hS
  refine o_pure hS (.inl rfl) rfl rfl ?_; clear hS
  intro tm hS
  refine o_nil (hR _ _ ?_)
  clear hR R
  refine c_cond hS rfl (fun hc => ?_) (fun hc => ?_)
  ·replace h1 := iteT hc h1
   refine c_reg fun R hR => ?_
   refine o_pure hS (.inl rfl) rfl rfl ?_; clear hS
   intro tm hS
   refine o_nil (hR _ _ ?_)
   clear hR R
   refine wpC.ret ?_
   obtain rfl := Option.some.inj h1
   obtain rfl := hq1 _ rfl
   refine And.intro rfl ?_
   obtain rfl := leave h0
   refine Exists.intro _ (And.intro (rs_tmp hS rfl rs_nil) ?_)
   have hI := hS.inv
   exact ⟨rfl, (hI.sub sn)⟩
  ·replace h1 := iteF hc h1
   refine wpC.skip ?_
   refine c_reg1 fun R hR => ?_
   refine o_pure hS (.inl rfl) rfl rfl ?_; clear hS
   intro tm hS
   refine o_pure hS (.inl rfl) rfl rfl ?_; clear hS
   intro tm hS
   refine o_pure hS (.inl rfl) rfl rfl ?_; clear hS
   intro tm hS
   refine o_nil (hR _ _ ?_)
   clear hR R
   obtain rfl := Option.some.inj h1
   refine ⟨_, rfl, ?_⟩
   change S wm 18 _ _ _ _ Fr; exact hS.keep (ka_cons rfl (ka_cons rfl (ka_cons rfl ka_nil))) (fun hI => (hI.sub (sc sn)))
 ·replace h1 := iteF hc h1
  refine wpC.exit ?_
  refine seqX ?_
  obtain rfl := Option.some.inj h1
  obtain rfl := hq1 _ rfl
  refine And.intro rfl (blk_eq ?_)
  replace h0 := joinN h0
  refine c_reg fun R hR => ?_
  refine o_pure hS (.inl rfl) rfl rfl ?_; clear hS
  intro tm hS
  refine o_nil (hR _ _ ?_)
  clear hR R
  refine wpC.ret ?_
  obtain rfl := Option.some.inj h0
  refine Exists.intro _ (And.intro (rs_tmp hS rfl rs_nil) ?_)
  have hI := hS.inv
  exact ⟨rfl, (hI.sub sn)⟩
theorem wk121 {wm : Nat} {H : AHeap} {Fr : List Ent}  (s1 : (List Int))  (v1 : Value) (hI : Kn wm H [.fz (rI .i64) v1 s1] Fr) {r : Int × Int} (h0 : M.anamnesisref03_Size s1 = some r) :
  wpF Try.prog ora wm 121 [v1] H (fun res H => res = .tuple #[.int .i64 r.1, .int .i64 r.2] ∧ Kn wm H [] Fr) := by
 unfold M.anamnesisref03_Size at h0
 refine f_enter (n := 38) Try.func121 rfl (by simp) hI rfl rfl rfl fun tm hS => ?_
 clear hI
 refine c_reg fun R hR => ?_
 refine o_pure hS (.inl rfl) rfl rfl ?_; clear hS
 intro tm hS
 refine o_pure hS (.inl rfl) rfl rfl ?_; clear hS
 intro tm hS
 refine o_nil (hR _ _ ?_)
 clear hR R
 refine c_seqS ?_
 refine c_reg fun R hR => ?_
 refine o_pure hS (.inl rfl) rfl rfl ?_; clear hS
 intro tm hS
 refine o_len (k := 0) (r := (rI .i64)) hS (.inl rfl) rfl rfl rfl (.inl rfl) Fu22 rfl ?_; clear hS
 intro tm hS
 refine o_pure hS (.inl rfl) rfl rfl ?_; clear hS
 intro tm hS
 refine o_nil (hR _ _ ?_)
 clear hR R
 refine c_cond hS rfl (fun hc => ?_) (fun hc => ?_)
 ·replace h0 := iteT hc h0
  refine c_reg fun R hR => ?_
  refine o_pure hS (.inl rfl) rfl rfl ?_; clear hS
  intro tm hS
  refine o_pure hS (.inl rfl) rfl rfl ?_; clear hS
  intro tm hS
  refine o_nil (hR _ _ ?_)
  clear hR R
  refine wpC.ret ?_
  obtain rfl := Option.some.inj h0
  refine Exists.intro _ (And.intro (rs_tmp hS rfl (rs_tmp hS rfl rs_nil)) ?_)
  have hI := hS.inv
  exact ⟨rfl, (hI.sub sn)⟩
 ·replace h0 := iteF hc h0
  refine wpC.skip ?_
  refine c_reg fun R hR => ?_
  refine o_pure hS (.inl rfl) rfl rfl ?_; clear hS
  intro tm hS
  refine o_nil (hR _ _ ?_)
  clear hR R
  refine c_reg fun R hR => ?_
  refine o_pure hS (.inl rfl) rfl rfl ?_; clear hS
  intro tm hS
  refine o_nil (hR _ _ ?_)
  clear hR R
  refine c_seqS ?_
  refine c_reg fun R hR => ?_
  refine o_pure hS (.inl rfl) rfl rfl ?_; clear hS
  intro tm hS
  refine o_nil (hR _ _ ?_)
  clear hR R
  obtain ⟨k1, hw1, h0⟩ := bindS h0
  refine wpC.block ?_
  refine c_loop (I := fun (s : Int × Bool × Int) tm H => match (generalizing := false) s with | (size1, long1, i1) => S wm 38 tm H [(0, v1), (4, .int .i64 size1), (5, .bool long1), (6, .int .i64 i1)] [.fz (rI .i64) v1 s1] Fr) hw1 (by change S wm 38 _ _ _ _ Fr; exact hS.keep (ka_cons rfl (ka_cons rfl (ka_cons rfl (ka_cons rfl ka_nil)))) (fun hI => (hI.sub (sc sn)))) ?_
  clear hS
  intro s2 tm H c1 hS h2 hq2
  obtain ⟨size1, long1, i1⟩ := s2
  change S wm 38 tm H [(0, v1), (4, .int .i64 size1), (5, .bool long1), (6, .int .i64 i1)] [.fz (rI .i64) v1 s1] Fr at hS
  refine c_seqS ?_
  refine c_reg fun R hR => ?_
  refine o_pure hS (.inl rfl) rfl rfl ?_; clear hS
  intro tm hS
  refine o_pure hS (.inl rfl) rfl rfl ?_; clear hS
  intro tm hS
  refine o_len (k := 0) (r := (rI .i64)) hS (.inl rfl) rfl rfl rfl (.inl rfl) Fu22 rfl ?_; clear hS
  intro tm hS
  refine o_pure hS (.inl rfl) rfl rfl ?_; clear hS
  intro tm hS
  refine o_nil (hR _ _ ?_)
  clear hR R
  refine c_cond hS rfl (fun hc => ?_) (fun hc => ?_)
  ·replace h2 := iteT hc h2
   refine wpC.skip ?_
   refine c_seqS ?_
   refine wpC.block ?_
   refine c_seqS ?_
   refine c_reg fun R hR => ?_
   refine o_pure hS (.inl rfl) rfl rfl ?_; clear hS
   intro tm hS
   refine o_pure hS (.inl rfl) rfl rfl ?_; clear hS
   intro tm hS
   obtain ⟨y1, hx1, h2⟩ := bindS h2
   refine o_ixA (k := 0) (r := (rI .i64)) hS (.inl rfl) rfl rfl rfl rfl (.inl rfl) Fu22 Fs3 hx1 ?_; clear hS
   intro tm hS
   refine o_ldF (r := (rI .i64)) (k := 0) hS (.inl rfl) rfl rfl rfl (.inl rfl) hx1 Fu3 rfl (flat_I _) rfl ?_; clear hS
   intro tm hS
   refine o_pure hS (.inl rfl) rfl rfl ?_; clear hS
   intro tm hS
   refine o_nil (hR _ _ ?_)
   clear hR R
   refine c_cond hS rfl (fun hc => ?_) (fun hc => ?_)
   ·replace h2 := iteT hc h2
    refine c_reg fun R hR => ?_
    refine o_pure hS (.inl rfl) rfl rfl ?_; clear hS
    intro tm hS
    refine o_pure hS (.inl rfl) rfl rfl ?_; clear hS
    intro tm hS
    refine o_nil (hR _ _ ?_)
    clear hR R
    refine wpC.ret ?_
    obtain rfl := Option.some.inj h2
    obtain rfl := hq2 _ rfl
    refine And.intro rfl ?_
    obtain rfl := leave h0
    refine Exists.intro _ (And.intro (rs_tmp hS rfl (rs_tmp hS rfl rs_nil)) ?_)
    have hI := hS.inv
    exact ⟨rfl, (hI.sub sn)⟩
   ·replace h2 := iteF hc h2
    refine wpC.skip ?_
    obtain ⟨k2, h4, h2⟩ := bindS h2
    refine c_seqJ (J := fun tm H => (match (generalizing := false) k2 with | (size2, long2) => S wm 38 tm H [(0, v1), (4, .int .i64 size2), (5, .bool long2), (6, .int .i64 i1)] [.fz (rI .i64) v1 s1] Fr)) ?_ ?_
    ·refine c_reg fun R hR => ?_
     refine o_pure hS (.inl rfl) rfl rfl ?_; clear hS
     intro tm hS
     refine o_pure hS (.inl rfl) rfl rfl ?_; clear hS
     intro tm hS
     obtain ⟨y2, hx2, h4⟩ := bindS h4
     refine o_ixA (k := 0) (r := (rI .i64)) hS (.inl rfl) rfl rfl rfl rfl (.inl rfl) Fu22 Fs3 hx2 ?_; clear hS
     intro tm hS
     refine o_ldF (r := (rI .i64)) (k := 0) hS (.inl rfl) rfl rfl rfl (.inl rfl) hx2 Fu3 rfl (flat_I _) rfl ?_; clear hS
     intro tm hS
     refine o_pure hS (.inl rfl) rfl rfl ?_; clear hS
     intro tm hS
     refine o_nil (hR _ _ ?_)
     clear hR R
     refine c_cond hS rfl (fun hc => ?_) (fun hc => ?_)
     ·replace h4 := iteT hc h4
      refine c_reg fun R hR => ?_
      refine o_pure hS (.inl rfl) rfl rfl ?_; clear hS
      intro tm hS
      refine o_nil (hR _ _ ?_)
      clear hR R
      refine c_reg1 fun R hR => ?_
      refine o_pure hS (.inl rfl) rfl rfl ?_; clear hS
      intro tm hS
      refine o_nil (hR _ _ ?_)
      clear hR R
      obtain rfl := Option.some.inj h4
      change S wm 38 _ _ _ _ Fr; exact hS.keep (ka_cons rfl (ka_cons rfl (ka_cons rfl (ka_cons rfl ka_nil)))) (fun hI => (hI.sub (sc sn)))
     ·replace h4 := iteF hc h4
      refine wpC.skip ?_
      obtain rfl := Option.some.inj h4
      change S wm 38 _ _ _ _ Fr; exact hS.keep (ka_cons rfl (ka_cons rfl (ka_cons rfl (ka_cons rfl ka_nil)))) (fun hI => (hI.sub (sc sn)))
    intro tm H hS
    obtain ⟨size2, long2⟩ := k2
    change S wm 38 tm H [(0, v1), (4, .int .i64 size2), (5, .bool long2), (6, .int .i64 i1)] [.fz (rI .i64) v1 s1] Fr at hS
    refine c_reg1 fun R hR => ?_
    refine o_pure hS (.inl rfl) rfl rfl ?_; clear hS
    intro tm hS
    refine o_pure hS (.inl rfl) rfl rfl ?_; clear hS
    intro tm hS
    refine o_pure hS (.inl rfl) rfl rfl ?_; clear hS
    intro tm hS
    obtain ⟨y3, hx3, h2⟩ := bindS h2
    refine o_ixA (k := 0) (r := (rI .i64)) hS (.inl rfl) rfl rfl rfl rfl (.inl rfl) Fu22 Fs3 hx3 ?_; clear hS
    intro tm hS
    refine o_ldF (r := (rI .i64)) (k := 0) hS (.inl rfl) rfl rfl rfl (.inl rfl) hx3 Fu3 rfl (flat_I _) rfl ?_; clear hS
    intro tm hS
    refine o_pure hS (.inl rfl) rfl rfl ?_; clear hS
    intro tm hS
    refine o_pure hS (.inl rfl) rfl rfl ?_; clear hS
    intro tm hS
    refine o_nil (hR _ _ ?_)
    clear hR R
    refine c_reg1 fun R hR => ?_
    refine o_pure hS (.inl rfl) rfl rfl ?_; clear hS
    intro tm hS
    refine o_pure hS (.inl rfl) rfl rfl ?_; clear hS
    intro tm hS
    refine o_pure hS (.inl rfl) rfl rfl ?_; clear hS
    intro tm hS
    refine o_nil (hR _ _ ?_)
    clear hR R
    obtain rfl := Option.some.inj h2
    refine ⟨_, rfl, ?_⟩
    change S wm 38 _ _ _ _ Fr; exact hS.keep (ka_cons rfl (ka_cons rfl (ka_cons rfl (ka_cons rfl ka_nil)))) (fun hI => (hI.sub (sc sn)))
  ·replace h2 := iteF hc h2
   refine wpC.exit ?_
   refine seqX ?_
   obtain rfl := Option.some.inj h2
   obtain rfl := hq2 _ rfl
   refine And.intro rfl (blk_eq ?_)
   replace h0 := joinN h0
   refine c_seqS ?_
   refine c_reg fun R hR => ?_
   refine o_pure hS (.inl rfl) rfl rfl ?_; clear hS
   intro tm hS
   refine o_pure hS (.inl rfl) rfl rfl ?_; clear hS
   intro tm hS
   obtain ⟨c2, hc1⟩ : ∃ x : Bool, x = (long1 || (decide (size1 > 10000))) := ⟨_, rfl⟩
   refine o_cutN 3 (J := fun tm H => S wm 38 tm H [(36, .bool c2), (4, .int .i64 size1)] [] Fr) ?_ ?_
   ·rcases Bool.eq_false_or_eq_true long1 with hg1 | hg1
    ·refine o_skip hS rfl rfl rfl hg1 ?_; clear hS
     intro tm hS
     refine o_skip hS rfl rfl rfl hg1 ?_; clear hS
     intro tm hS
     refine o_pickT hS (.inl rfl) rfl rfl hg1 rfl ?_; clear hS
     intro tm hS
     have hc1 : c2 = true := hc1.trans (by rw [hg1]; first | rfl | simp)
     subst hc1
     exact o_nil (hS.keep (ka_cons rfl (ka_cons rfl ka_nil)) (fun hI => (hI.sub sn)))
    ·refine o_pure hS (.inr ⟨_, _, _, _, rfl, rfl, rfl, hg1⟩) rfl rfl ?_; clear hS
     intro tm hS
     refine o_pure hS (.inr ⟨_, _, _, _, rfl, rfl, rfl, hg1⟩) rfl rfl ?_; clear hS
     intro tm hS
     refine o_pickF hS (.inl rfl) rfl rfl hg1 rfl ?_; clear hS
     intro tm hS
     have hc1 : c2 = (decide (size1 > 10000)) := hc1.trans (by rw [hg1]; first | rfl | simp)
     subst hc1
     exact o_nil (hS.keep (ka_cons rfl (ka_cons rfl ka_nil)) (fun hI => (hI.sub sn)))
   intro tm H hS
   subst hc1
   refine o_nil (hR _ _ ?_)
   clear hR R
   refine c_cond hS rfl (fun hc => ?_) (fun hc => ?_)
   ·replace h0 := iteT hc h0
    refine c_reg fun R hR => ?_
    refine o_pure hS (.inl rfl) rfl rfl ?_; clear hS
    intro tm hS
    refine o_pure hS (.inl rfl) rfl rfl ?_; clear hS
    intro tm hS
    refine o_nil (hR _ _ ?_)
    clear hR R
    refine wpC.ret ?_
    obtain rfl := Option.some.inj h0
    refine Exists.intro _ (And.intro (rs_tmp hS rfl (rs_tmp hS rfl rs_nil)) ?_)
    have hI := hS.inv
    exact ⟨rfl, (hI.sub sn)⟩
   ·replace h0 := iteF hc h0
    refine wpC.skip ?_
    refine c_reg fun R hR => ?_
    refine o_pure hS (.inl rfl) rfl rfl ?_; clear hS
    intro tm hS
    refine o_pure hS (.inl rfl) rfl rfl ?_; clear hS
    intro tm hS
    refine o_pure hS (.inl rfl) rfl rfl ?_; clear hS
    intro tm hS
    refine o_nil (hR _ _ ?_)
    clear hR R
    refine wpC.ret ?_
    obtain rfl := Option.some.inj h0
    refine Exists.intro _ (And.intro (rs_tmp hS rfl (rs_tmp hS rfl rs_nil)) ?_)
    have hI := hS.inv
    exact ⟨rfl, (hI.sub sn)⟩
theorem wk77 {wm : Nat} {H : AHeap} {Fr : List Ent}  (v1 : Val)  (v2 : Value) (v3 : Value) (hI : Kn wm H [.fz (rI .i64) v2 v1.Shape, .fz (rI .i64) v3 v1.Data] Fr) {r : Bool} (h0 : M.anamnesisref06_Right v1 = some r) :
  wpF Try.prog ora wm 77 [.agg #[.bool v1.Char, v2, v3]] H (fun res H => res = .bool r ∧ Kn wm H [] Fr) := by
 unfold M.anamnesisref06_Right at h0
 refine f_enter (n := 62) Try.func77 rfl (by simp) hI rfl rfl rfl fun tm hS => ?_
 clear hI
 refine c_reg fun R hR => ?_
 refine o_box hS (.inl rfl) rfl rfl rfl (all_cons rfl (all_cons (hS.one (k := 0) rfl (.inl rfl)) (all_cons (hS.one (k := 1) rfl (.inl rfl)) all_nil))) ?_; clear hS H
 intro b1 tm H hS
 refine o_pure hS (.inl rfl) rfl rfl ?_; clear hS
 intro tm hS
 refine o_nil (hR _ _ ?_)
 clear hR R
 refine c_reg fun R hR => ?_
 refine o_pure hS (.inl rfl) rfl rfl ?_; clear hS
 intro tm hS
 refine o_ld1 (k := 0) hS (.inl rfl) rfl rfl rfl (.inl rfl) Fu22 rfl rfl ?_; clear hS
 intro tm hS
 obtain ⟨⟨r1, r2⟩, hx1, h0⟩ := bindS h0
 refine o_call hS (.inl rfl) rfl (fun wm' hw1 hw2 => wk121  v1.Shape  v2 ((hS.sel hw2).ad 1 rfl) hx1) (fun wm' res H hw' hp => ?_)
 obtain ⟨hres, hI⟩ := hp
 replace hres := hres.symm; subst hres
 replace hS : S wm 62 _ H ((9, .tuple #[.int .i64 r1, .int .i64 r2]) :: _) ([] ++ _) Fr := hS.after rfl hw' hI
 clear hI hw'
 refine o_pure hS (.inl rfl) rfl rfl ?_; clear hS
 intro tm hS
 refine o_pure hS (.inl rfl) rfl rfl ?_; clear hS
 intro tm hS
 refine o_pure hS (.inl rfl) rfl rfl ?_; clear hS
 intro tm hS
 refine o_pure hS (.inl rfl) rfl rfl ?_; clear hS
 intro tm hS
 refine o_pure hS (.inl rfl) rfl rfl ?_; clear hS
 intro tm hS
 refine o_nil (hR _ _ ?_)
 clear hR R
 refine c_seqS ?_
 refine c_reg fun R hR => ?_
 refine o_pure hS (.inl rfl) rfl rfl ?_; clear hS
 intro tm hS
 refine o_pure hS (.inl rfl) rfl rfl ?_; clear hS
 intro tm hS
 refine o_pure hS (.inl rfl) rfl rfl ?_; clear hS
 intro tm hS
 obtain ⟨c1, hc1⟩ : ∃ x : Bool, x = ((r2 != 0) || (r1 != (v1.Data.length : Int))) := ⟨_, rfl⟩
 refine o_cutN 6 (J := fun tm H => S wm 62 tm H [(20, .bool c1), (1, .pointer (some ⟨b1, 0, none⟩))] [.box b1 [.bool v1.Char, v2, v3], .fz (rI .i64) v2 v1.Shape, .fz (rI .i64) v3 v1.Data] Fr) ?_ ?_
 ·rcases Bool.eq_false_or_eq_true (r2 != 0) with hg1 | hg1
  ·refine o_skip hS rfl rfl rfl hg1 ?_; clear hS
   intro tm hS
   refine o_skip hS rfl rfl rfl hg1 ?_; clear hS
   intro tm hS
   refine o_skip hS rfl rfl rfl hg1 ?_; clear hS
   intro tm hS
   refine o_skip hS rfl rfl rfl hg1 ?_; clear hS
   intro tm hS
   refine o_skip hS rfl rfl rfl hg1 ?_; clear hS
   intro tm hS
   refine o_pickT hS (.inl rfl) rfl rfl hg1 rfl ?_; clear hS
   intro tm hS
   have hc1 : c1 = true := hc1.trans (by rw [hg1]; first | rfl | simp)
   subst hc1
   exact o_nil (hS.keep (ka_cons rfl (ka_cons rfl ka_nil)) (fun hI => (hI.sub (sc (sc (sc sn))))))
  ·refine o_pure hS (.inr ⟨_, _, _, _, rfl, rfl, rfl, hg1⟩) rfl rfl ?_; clear hS
   intro tm hS
   refine o_pure hS (.inr ⟨_, _, _, _, rfl, rfl, rfl, hg1⟩) rfl rfl ?_; clear hS
   intro tm hS
   refine o_ld1 (k := 0) hS (.inr ⟨_, _, _, _, rfl, rfl, rfl, hg1⟩) rfl rfl rfl (.inl rfl) Fu23 rfl rfl ?_; clear hS
   intro tm hS
   refine o_len (k := 2) (r := (rI .i64)) hS (.inr ⟨_, _, _, _, rfl, rfl, rfl, hg1⟩) rfl rfl rfl (.inl rfl) Fu23 rfl ?_; clear hS
   intro tm hS
   refine o_pure hS (.inr ⟨_, _, _, _, rfl, rfl, rfl, hg1⟩) rfl rfl ?_; clear hS
   intro tm hS
   refine o_pickF hS (.inl rfl) rfl rfl hg1 rfl ?_; clear hS
   intro tm hS
   have hc1 : c1 = (r1 != (v1.Data.length : Int)) := hc1.trans (by rw [hg1]; first | rfl | simp)
   subst hc1
   exact o_nil (hS.keep (ka_cons rfl (ka_cons rfl ka_nil)) (fun hI => (hI.sub (sc (sc (sc sn))))))
 intro tm H hS
 subst hc1
 refine o_nil (hR _ _ ?_)
 clear hR R
 refine c_cond hS rfl (fun hc => ?_) (fun hc => ?_)
 ·replace h0 := iteT hc h0
  refine c_reg fun R hR => ?_
  refine o_pure hS (.inl rfl) rfl rfl ?_; clear hS
  intro tm hS
  refine o_nil (hR _ _ ?_)
  clear hR R
  refine wpC.ret ?_
  obtain rfl := Option.some.inj h0
  refine Exists.intro _ (And.intro (rs_tmp hS rfl rs_nil) ?_)
  have hI := hS.inv
  exact ⟨rfl, (hI.sub sn)⟩
 ·replace h0 := iteF hc h0
  refine wpC.skip ?_
  refine c_seqS ?_
  refine c_reg fun R hR => ?_
  refine o_pure hS (.inl rfl) rfl rfl ?_; clear hS
  intro tm hS
  refine o_nil (hR _ _ ?_)
  clear hR R
  obtain ⟨k1, hw1, h0⟩ := bindS h0
  refine wpC.block ?_
  refine c_loop (I := fun (s : Int) tm H => match (generalizing := false) s with | i1 => S wm 62 tm H [(1, .pointer (some ⟨b1, 0, none⟩)), (5, .int .i64 i1)] [.box b1 [.bool v1.Char, v2, v3], .fz (rI .i64) v2 v1.Shape, .fz (rI .i64) v3 v1.Data] Fr) hw1 (by change S wm 62 _ _ _ _ Fr; exact hS.keep (ka_cons rfl (ka_cons rfl ka_nil)) (fun hI => (hI.sub (sc (sc (sc sn)))))) ?_
  clear hS
  intro i1 tm H c2 hS h1 hq1
  change S wm 62 tm H [(1, .pointer (some ⟨b1, 0, none⟩)), (5, .int .i64 i1)] [.box b1 [.bool v1.Char, v2, v3], .fz (rI .i64) v2 v1.Shape, .fz (rI .i64) v3 v1.Data] Fr at hS
  refine c_seqS ?_
  refine c_reg fun R hR => ?_
  refine o_pure hS (.inl rfl) rfl rfl ?_; clear hS
  intro tm hS
  refine o_pure hS (.inl rfl) rfl rfl ?_; clear hS
  intro tm hS
  refine o_ld1 (k := 0) hS (.inl rfl) rfl rfl rfl (.inl rfl) Fu23 rfl rfl ?_; clear hS
  intro tm hS
  refine o_len (k := 2) (r := (rI .i64)) hS (.inl rfl) rfl rfl rfl (.inl rfl) Fu23 rfl ?_; clear hS
  intro tm hS
  refine o_pure hS (.inl rfl) rfl rfl ?_; clear hS
  intro tm hS
  refine o_pure hS (.inl rfl) rfl rfl ?_; clear hS
  intro tm hS
  obtain ⟨c3, hc2⟩ : ∃ x : Bool, x = ((decide (i1 < (v1.Data.length : Int))) && v1.Char) := ⟨_, rfl⟩
  refine o_cutN 3 (J := fun tm H => S wm 62 tm H [(29, .bool c3), (1, .pointer (some ⟨b1, 0, none⟩)), (5, .int .i64 i1)] [.box b1 [.bool v1.Char, v2, v3], .fz (rI .i64) v2 v1.Shape, .fz (rI .i64) v3 v1.Data] Fr) ?_ ?_
  ·rcases Bool.eq_false_or_eq_true (decide (i1 < (v1.Data.length : Int))) with hg2 | hg2
   ·refine o_pure hS (.inr ⟨_, _, _, _, rfl, rfl, rfl, hg2⟩) rfl rfl ?_; clear hS
    intro tm hS
    refine o_ld1 (k := 0) hS (.inr ⟨_, _, _, _, rfl, rfl, rfl, hg2⟩) rfl rfl rfl (.inl rfl) Fu4 rfl rfl ?_; clear hS
    intro tm hS
    refine o_pickT hS (.inl rfl) rfl rfl hg2 rfl ?_; clear hS
    intro tm hS
    have hc2 : c3 = v1.Char := hc2.trans (by rw [hg2]; first | rfl | simp)
    subst hc2
    exact o_nil (hS.keep (ka_cons rfl (ka_cons rfl (ka_cons rfl ka_nil))) (fun hI => (hI.sub (sc (sc (sc sn))))))
   ·refine o_skip hS rfl rfl rfl hg2 ?_; clear hS
    intro tm hS
    refine o_skip hS rfl rfl rfl hg2 ?_; clear hS
    intro tm hS
    refine o_pickF hS (.inl rfl) rfl rfl hg2 rfl ?_; clear hS
    intro tm hS
    have hc2 : c3 = false := hc2.trans (by rw [hg2]; first | rfl | simp)
    subst hc2
    exact o_nil (hS.keep (ka_cons rfl (ka_cons rfl (ka_cons rfl ka_nil))) (fun hI => (hI.sub (sc (sc (sc sn))))))
  intro tm H hS
  subst hc2
  refine o_nil (hR _ _ ?_)
  clear hR R
  refine c_cond hS rfl (fun hc => ?_) (fun hc => ?_)
  ·replace h1 := iteT hc h1
   refine wpC.skip ?_
   refine c_seqS ?_
   refine wpC.block ?_
   refine c_reg fun R hR => ?_
   refine o_pure hS (.inl rfl) rfl rfl ?_; clear hS
   intro tm hS
   refine o_ld1 (k := 0) hS (.inl rfl) rfl rfl rfl (.inl rfl) Fu23 rfl rfl ?_; clear hS
   intro tm hS
   refine o_pure hS (.inl rfl) rfl rfl ?_; clear hS
   intro tm hS
   obtain ⟨y1, hx2, h1⟩ := bindS h1
   refine o_ixA (k := 2) (r := (rI .i64)) hS (.inl rfl) rfl rfl rfl rfl (.inl rfl) Fu23 Fs2 hx2 ?_; clear hS
   intro tm hS
   refine o_ldF (r := (rI .i64)) (k := 2) hS (.inl rfl) rfl rfl rfl (.inl rfl) hx2 Fu2 rfl (flat_I _) rfl ?_; clear hS
   intro tm hS
   refine o_pure hS (.inl rfl) rfl rfl ?_; clear hS
   intro tm hS
   refine o_pure hS (.inl rfl) rfl rfl ?_; clear hS
   intro tm hS
   obtain ⟨c4, hc3, h1⟩ := bindS h1
   refine o_cutN 7 (J := fun tm H => S wm 62 tm H [(45, .bool c4), (1, .pointer (some ⟨b1, 0, none⟩)), (5, .int .i64 i1)] [.box b1 [.bool v1.Char, v2, v3], .fz (rI .i64) v2 v1.Shape, .fz (rI .i64) v3 v1.Data] Fr) ?_ ?_
   ·rcases Bool.eq_false_or_eq_true (decide (y1 < 0)) with hg3 | hg3
    ·replace hc3 := iteT hg3 hc3
     refine o_skip hS rfl rfl rfl hg3 ?_; clear hS
     intro tm hS
     refine o_skip hS rfl rfl rfl hg3 ?_; clear hS
     intro tm hS
     refine o_skip hS rfl rfl rfl hg3 ?_; clear hS
     intro tm hS
     refine o_skip hS rfl rfl rfl hg3 ?_; clear hS
     intro tm hS
     refine o_skip hS rfl rfl rfl hg3 ?_; clear hS
     intro tm hS
     refine o_skip hS rfl rfl rfl hg3 ?_; clear hS
     intro tm hS
     refine o_pickT hS (.inl rfl) rfl rfl hg3 rfl ?_; clear hS
     intro tm hS
     obtain rfl := Option.some.inj hc3
     exact o_nil (hS.keep (ka_cons rfl (ka_cons rfl (ka_cons rfl ka_nil))) (fun hI => (hI.sub (sc (sc (sc sn))))))
    ·replace hc3 := iteF hg3 hc3
     refine o_pure hS (.inr ⟨_, _, _, _, rfl, rfl, rfl, hg3⟩) rfl rfl ?_; clear hS
     intro tm hS
     refine o_ld1 (k := 0) hS (.inr ⟨_, _, _, _, rfl, rfl, rfl, hg3⟩) rfl rfl rfl (.inl rfl) Fu23 rfl rfl ?_; clear hS
     intro tm hS
     refine o_pure hS (.inr ⟨_, _, _, _, rfl, rfl, rfl, hg3⟩) rfl rfl ?_; clear hS
     intro tm hS
     obtain ⟨y2, hx3, hc3⟩ := bindS hc3
     refine o_ixA (k := 2) (r := (rI .i64)) hS (.inr ⟨_, _, _, _, rfl, rfl, rfl, hg3⟩) rfl rfl rfl rfl (.inl rfl) Fu23 Fs2 hx3 ?_; clear hS
     intro tm hS
     refine o_ldF (r := (rI .i64)) (k := 2) hS (.inr ⟨_, _, _, _, rfl, rfl, rfl, hg3⟩) rfl rfl rfl (.inl rfl) hx3 Fu2 rfl (flat_I _) rfl ?_; clear hS
     intro tm hS
     refine o_pure hS (.inr ⟨_, _, _, _, rfl, rfl, rfl, hg3⟩) rfl rfl ?_; clear hS
     intro tm hS
     refine o_pickF hS (.inl rfl) rfl rfl hg3 rfl ?_; clear hS
     intro tm hS
     obtain rfl := Option.some.inj hc3
     exact o_nil (hS.keep (ka_cons rfl (ka_cons rfl (ka_cons rfl ka_nil))) (fun hI => (hI.sub (sc (sc (sc sn))))))
   intro tm H hS
   refine o_pure hS (.inl rfl) rfl rfl ?_; clear hS
   intro tm hS
   obtain ⟨c5, hc4, h1⟩ := bindS h1
   refine o_cutN 15 (J := fun tm H => S wm 62 tm H [(61, .bool c5), (1, .pointer (some ⟨b1, 0, none⟩)), (5, .int .i64 i1)] [.box b1 [.bool v1.Char, v2, v3], .fz (rI .i64) v2 v1.Shape, .fz (rI .i64) v3 v1.Data] Fr) ?_ ?_
   ·rcases Bool.eq_false_or_eq_true c4 with hg4 | hg4
    ·replace hc4 := iteT hg4 hc4
     refine o_skip hS rfl rfl rfl hg4 ?_; clear hS
     intro tm hS
     refine o_skip hS rfl rfl rfl hg4 ?_; clear hS
     intro tm hS
     refine o_skip hS rfl rfl rfl hg4 ?_; clear hS
     intro tm hS
     refine o_skip hS rfl rfl rfl hg4 ?_; clear hS
     intro tm hS
     refine o_skip hS rfl rfl rfl hg4 ?_; clear hS
     intro tm hS
     refine o_skip hS rfl rfl rfl hg4 ?_; clear hS
     intro tm hS
     refine o_skip hS rfl rfl rfl hg4 ?_; clear hS
     intro tm hS
     refine o_skipU hS rfl rfl rfl ?_; clear hS
     intro tm hS
     refine o_skipU hS rfl rfl rfl ?_; clear hS
     intro tm hS
     refine o_skipU hS rfl rfl rfl ?_; clear hS
     intro tm hS
     refine o_skipU hS rfl rfl rfl ?_; clear hS
     intro tm hS
     refine o_skipU hS rfl rfl rfl ?_; clear hS
     intro tm hS
     refine o_skipU hS rfl rfl rfl ?_; clear hS
     intro tm hS
     refine o_skip hS rfl rfl rfl hg4 ?_; clear hS
     intro tm hS
     refine o_pickT hS (.inl rfl) rfl rfl hg4 rfl ?_; clear hS
     intro tm hS
     obtain rfl := Option.some.inj hc4
     exact o_nil (hS.keep (ka_cons rfl (ka_cons rfl (ka_cons rfl ka_nil))) (fun hI => (hI.sub (sc (sc (sc sn))))))
    ·replace hc4 := iteF hg4 hc4
     refine o_pure hS (.inr ⟨_, _, _, _, rfl, rfl, rfl, hg4⟩) rfl rfl ?_; clear hS
     intro tm hS
     refine o_ld1 (k := 0) hS (.inr ⟨_, _, _, _, rfl, rfl, rfl, hg4⟩) rfl rfl rfl (.inl rfl) Fu23 rfl rfl ?_; clear hS
     intro tm hS
     refine o_pure hS (.inr ⟨_, _, _, _, rfl, rfl, rfl, hg4⟩) rfl rfl ?_; clear hS
     intro tm hS
     obtain ⟨y3, hx4, hc4⟩ := bindS hc4
     refine o_ixA (k := 2) (r := (rI .i64)) hS (.inr ⟨_, _, _, _, rfl, rfl, rfl, hg4⟩) rfl rfl rfl rfl (.inl rfl) Fu23 Fs2 hx4 ?_; clear hS
     intro tm hS
     refine o_ldF (r := (rI .i64)) (k := 2) hS (.inr ⟨_, _, _, _, rfl, rfl, rfl, hg4⟩) rfl rfl rfl (.inl rfl) hx4 Fu2 rfl (flat_I _) rfl ?_; clear hS
     intro tm hS
     refine o_pure hS (.inr ⟨_, _, _, _, rfl, rfl, rfl, hg4⟩) rfl rfl ?_; clear hS
     intro tm hS
     refine o_pure hS (.inr ⟨_, _, _, _, rfl, rfl, rfl, hg4⟩) rfl rfl ?_; clear hS
     intro tm hS
     obtain ⟨c6, hc5, hc4⟩ := bindS hc4
     refine o_cutN 7 (J := fun tm H => S wm 62 tm H [(60, .bool c6), (1, .pointer (some ⟨b1, 0, none⟩)), (5, .int .i64 i1), (46, .bool c4), (47, .pointer (some ⟨b1, 2, none⟩)), (48, v3), (49, .int .i64 i1), (50, elP v3 i1 1 0), (51, .int .i64 y3), (52, .bool (decide (y3 ≥ 55296))), (53, .bool (decide (y3 ≥ 55296)))] [.box b1 [.bool v1.Char, v2, v3], .fz (rI .i64) v2 v1.Shape, .fz (rI .i64) v3 v1.Data] Fr) ?_ ?_
     ·rcases Bool.eq_false_or_eq_true (decide (y3 ≥ 55296)) with hg5 | hg5
      ·replace hc5 := iteT hg5 hc5
       refine o_pure hS (.inr ⟨_, _, _, _, rfl, rfl, rfl, hg5⟩) rfl rfl ?_; clear hS
       intro tm hS
       refine o_ld1 (k := 0) hS (.inr ⟨_, _, _, _, rfl, rfl, rfl, hg5⟩) rfl rfl rfl (.inl rfl) Fu23 rfl rfl ?_; clear hS
       intro tm hS
       refine o_pure hS (.inr ⟨_, _, _, _, rfl, rfl, rfl, hg5⟩) rfl rfl ?_; clear hS
       intro tm hS
       obtain ⟨y4, hx5, hc5⟩ := bindS hc5
       refine o_ixA (k := 2) (r := (rI .i64)) hS (.inr ⟨_, _, _, _, rfl, rfl, rfl, hg5⟩) rfl rfl rfl rfl (.inl rfl) Fu23 Fs2 hx5 ?_; clear hS
       intro tm hS
       refine o_ldF (r := (rI .i64)) (k := 2) hS (.inr ⟨_, _, _, _, rfl, rfl, rfl, hg5⟩) rfl rfl rfl (.inl rfl) hx5 Fu2 rfl (flat_I _) rfl ?_; clear hS
       intro tm hS
       refine o_pure hS (.inr ⟨_, _, _, _, rfl, rfl, rfl, hg5⟩) rfl rfl ?_; clear hS
       intro tm hS
       refine o_pickT hS (.inr ⟨_, _, _, _, rfl, rfl, rfl, hg4⟩) rfl rfl hg5 rfl ?_; clear hS
       intro tm hS
       obtain rfl := Option.some.inj hc5
       exact o_nil (hS.keep (ka_cons rfl (ka_cons rfl (ka_cons rfl (ka_cons rfl (ka_cons rfl (ka_cons rfl (ka_cons rfl (ka_cons rfl (ka_cons rfl (ka_cons rfl (ka_cons rfl ka_nil))))))))))) (fun hI => (hI.sub (sc (sc (sc sn))))))
      ·replace hc5 := iteF hg5 hc5
       refine o_skip hS rfl rfl rfl hg5 ?_; clear hS
       intro tm hS
       refine o_skip hS rfl rfl rfl hg5 ?_; clear hS
       intro tm hS
       refine o_skip hS rfl rfl rfl hg5 ?_; clear hS
       intro tm hS
       refine o_skip hS rfl rfl rfl hg5 ?_; clear hS
       intro tm hS
       refine o_skip hS rfl rfl rfl hg5 ?_; clear hS
       intro tm hS
       refine o_skip hS rfl rfl rfl hg5 ?_; clear hS
       intro tm hS
       refine o_pickF hS (.inr ⟨_, _, _, _, rfl, rfl, rfl, hg4⟩) rfl rfl hg5 rfl ?_; clear hS
       intro tm hS
       obtain rfl := Option.some.inj hc5
       exact o_nil (hS.keep (ka_cons rfl (ka_cons rfl (ka_cons rfl (ka_cons rfl (ka_cons rfl (ka_cons rfl (ka_cons rfl (ka_cons rfl (ka_cons rfl (ka_cons rfl (ka_cons rfl ka_nil))))))))))) (fun hI => (hI.sub (sc (sc (sc sn))))))
     intro tm H hS
     refine o_pickF hS (.inl rfl) rfl rfl hg4 rfl ?_; clear hS
     intro tm hS
     obtain rfl := Option.some.inj hc4
     exact o_nil (hS.keep (ka_cons rfl (ka_cons rfl (ka_cons rfl ka_nil))) (fun hI => (hI.sub (sc (sc (sc sn))))))
   intro tm H hS
   refine o_nil (hR _ _ ?_)
   clear hR R
   refine c_cond hS rfl (fun hc => ?_) (fun hc => ?_)
   ·replace h1 := iteT hc h1
    refine c_reg fun R hR => ?_
    refine o_pure hS (.inl rfl) rfl rfl ?_; clear hS
    intro tm hS
    refine o_nil (hR _ _ ?_)
    clear hR R
    refine wpC.ret ?_
    obtain rfl := Option.some.inj h1
    obtain rfl := hq1 _ rfl
    refine And.intro rfl ?_
    obtain rfl := leave h0
    refine Exists.intro _ (And.intro (rs_tmp hS rfl rs_nil) ?_)
    have hI := hS.inv
    exact ⟨rfl, (hI.sub sn)⟩
   ·replace h1 := iteF hc h1
    refine wpC.skip ?_
    refine c_reg1 fun R hR => ?_
    refine o_pure hS (.inl rfl) rfl rfl ?_; clear hS
    intro tm hS
    refine o_pure hS (.inl rfl) rfl rfl ?_; clear hS
    intro tm hS
    refine o_pure hS (.inl rfl) rfl rfl ?_; clear hS
    intro tm hS
    refine o_nil (hR _ _ ?_)
    clear hR R
    obtain rfl := Option.some.inj h1
    refine ⟨_, rfl, ?_⟩
    change S wm 62 _ _ _ _ Fr; exact hS.keep (ka_cons rfl (ka_cons rfl ka_nil)) (fun hI => (hI.sub (sc (sc (sc sn)))))
  ·replace h1 := iteF hc h1
   refine wpC.exit ?_
   refine seqX ?_
   obtain rfl := Option.some.inj h1
   obtain rfl := hq1 _ rfl
   refine And.intro rfl (blk_eq ?_)
   replace h0 := joinN h0
   refine c_reg fun R hR => ?_
   refine o_pure hS (.inl rfl) rfl rfl ?_; clear hS
   intro tm hS
   refine o_nil (hR _ _ ?_)
   clear hR R
   refine wpC.ret ?_
   obtain rfl := Option.some.inj h0
   refine Exists.intro _ (And.intro (rs_tmp hS rfl rs_nil) ?_)
   have hI := hS.inv
   exact ⟨rfl, (hI.sub sn)⟩
theorem wk122 {wm : Nat} {H : AHeap} {Fr : List Ent}  (b1 : Bool)   (hI : Kn wm H [] Fr) {r : Int} (h0 : M.anamnesisref01_truth b1 = some r) :
  wpF Try.prog ora wm 122 [.bool b1] H (fun res H => res = .int .i64 r ∧ Kn wm H [] Fr) := by
 unfold M.anamnesisref01_truth at h0
 refine f_enter (n := 4) Try.func122 rfl (by simp) hI rfl rfl rfl fun tm hS => ?_
 clear hI
 refine c_reg fun R hR => ?_
 refine o_pure hS (.inl rfl) rfl rfl ?_; clear hS
 intro tm hS
 refine o_nil (hR _ _ ?_)
 clear hR R
 refine c_seqS ?_
 refine c_reg fun R hR => ?_
 refine o_pure hS (.inl rfl) rfl rfl ?_; clear hS
 intro tm hS
 refine o_nil (hR _ _ ?_)
 clear hR R
 refine c_cond hS rfl (fun hc => ?_) (fun hc => ?_)
 ·replace h0 := iteT hc h0
  refine c_reg fun R hR => ?_
  refine o_pure hS (.inl rfl) rfl rfl ?_; clear hS
  intro tm hS
  refine o_nil (hR _ _ ?_)
  clear hR R
  refine wpC.ret ?_
  obtain rfl := Option.some.inj h0
  refine Exists.intro _ (And.intro (rs_tmp hS rfl rs_nil) ?_)
  have hI := hS.inv
  exact ⟨rfl, (hI.sub sn)⟩
 ·replace h0 := iteF hc h0
  refine wpC.skip ?_
  refine c_reg fun R hR => ?_
  refine o_pure hS (.inl rfl) rfl rfl ?_; clear hS
  intro tm hS
  refine o_nil (hR _ _ ?_)
  clear hR R
  refine wpC.ret ?_
  obtain rfl := Option.some.inj h0
  refine Exists.intro _ (And.intro (rs_tmp hS rfl rs_nil) ?_)
  have hI := hS.inv
  exact ⟨rfl, (hI.sub sn)⟩
theorem wk78 {wm : Nat} {H : AHeap} {Fr : List Ent}  (fn1 : ByteArray) (b1 : Int)   (hI : Kn wm H [] Fr) {r : Int × Bool} (h0 : M.anamnesisref01_Monad fn1 b1 = some r) :
  wpF Try.prog ora wm 78 [.string fn1, .int .i64 b1] H (fun res H => res = .tuple #[.int .i64 r.1, .bool r.2] ∧ Kn wm H [] Fr) := by
 unfold M.anamnesisref01_Monad at h0
 refine f_enter (n := 79) Try.func78 rfl (by simp) hI rfl rfl rfl fun tm hS => ?_
 clear hI
 refine c_reg fun R hR => ?_
 refine o_pure hS (.inl rfl) rfl rfl ?_; clear hS
 intro tm hS
 refine o_pure hS (.inl rfl) rfl rfl ?_; clear hS
 intro tm hS
 refine o_nil (hR _ _ ?_)
 clear hR R
 refine c_seqS ?_
 refine c_reg fun R hR => ?_
 refine o_pure hS (.inl rfl) rfl rfl ?_; clear hS
 intro tm hS
 refine o_nil (hR _ _ ?_)
 clear hR R
 refine wpC.block ?_
 obtain ⟨t1, h1, h0⟩ := bindS h0
 refine c_seqJ (J := fun tm H => (match (generalizing := false) t1 with | t1 => S wm 79 tm H [(1, .int .i64 b1), (8, .string fn1), (9, .bool t1)] [] Fr)) ?_ ?_
 ·refine c_reg fun R hR => ?_
  refine o_pure hS (.inl rfl) rfl rfl ?_; clear hS
  intro tm hS
  refine o_pure hS (.inl rfl) rfl rfl ?_; clear hS
  intro tm hS
  refine o_nil (hR _ _ ?_)
  clear hR R
  refine c_cond hS rfl (fun hc => ?_) (fun hc => ?_)
  ·replace h1 := iteT hc h1
   refine wpC.skip ?_
   obtain rfl := Option.some.inj h1
   change S wm 79 _ _ _ _ Fr; exact hS.keep (ka_cons rfl (ka_cons rfl (ka_cons rfl ka_nil))) (fun hI => (hI.sub sn))
  ·replace h1 := iteF hc h1
   refine c_reg fun R hR => ?_
   refine o_pure hS (.inl rfl) rfl rfl ?_; clear hS
   intro tm hS
   refine o_pure hS (.inl rfl) rfl rfl ?_; clear hS
   intro tm hS
   refine o_nil (hR _ _ ?_)
   clear hR R
   refine c_cond hS rfl (fun hc => ?_) (fun hc => ?_)
   ·replace h1 := iteT hc h1
    refine wpC.skip ?_
    obtain rfl := Option.some.inj h1
    change S wm 79 _ _ _ _ Fr; exact hS.keep (ka_cons rfl (ka_cons rfl (ka_cons rfl ka_nil))) (fun hI => (hI.sub sn))
   ·replace h1 := iteF hc h1
    refine c_reg1 fun R hR => ?_
    refine o_pure hS (.inl rfl) rfl rfl ?_; clear hS
    intro tm hS
    refine o_pure hS (.inl rfl) rfl rfl ?_; clear hS
    intro tm hS
    refine o_nil (hR _ _ ?_)
    clear hR R
    obtain rfl := Option.some.inj h1
    change S wm 79 _ _ _ _ Fr; exact hS.keep (ka_cons rfl (ka_cons rfl (ka_cons rfl ka_nil))) (fun hI => (hI.sub sn))
 intro tm H hS
 change S wm 79 tm H [(1, .int .i64 b1), (8, .string fn1), (9, .bool t1)] [] Fr at hS
 refine c_cond hS rfl (fun hc => ?_) (fun hc => ?_)
 ·replace h0 := iteT hc h0
  refine c_reg fun R hR => ?_
  refine o_pure hS (.inl rfl) rfl rfl ?_; clear hS
  intro tm hS
  refine o_pure hS (.inl rfl) rfl rfl ?_; clear hS
  intro tm hS
  refine o_pure hS (.inl rfl) rfl rfl ?_; clear hS
  intro tm hS
  refine o_nil (hR _ _ ?_)
  clear hR R
  refine wpC.ret ?_
  obtain rfl := Option.some.inj h0
  refine Exists.intro _ (And.intro (rs_tmp hS rfl (rs_tmp hS rfl rs_nil)) ?_)
  have hI := hS.inv
  exact ⟨rfl, (hI.sub sn)⟩
 ·replace h0 := iteF hc h0
  refine c_reg fun R hR => ?_
  refine o_pure hS (.inl rfl) rfl rfl ?_; clear hS
  intro tm hS
  refine o_pure hS (.inl rfl) rfl rfl ?_; clear hS
  intro tm hS
  refine o_nil (hR _ _ ?_)
  clear hR R
  refine c_cond hS rfl (fun hc => ?_) (fun hc => ?_)
  ·replace h0 := iteT hc h0
   refine c_seqS ?_
   refine c_reg fun R hR => ?_
   refine o_pure hS (.inl rfl) rfl rfl ?_; clear hS
   intro tm hS
   refine o_pure hS (.inl rfl) rfl rfl ?_; clear hS
   intro tm hS
   refine o_nil (hR _ _ ?_)
   clear hR R
   refine c_cond hS rfl (fun hc => ?_) (fun hc => ?_)
   ·replace h0 := iteT hc h0
    refine c_reg fun R hR => ?_
    refine o_pure hS (.inl rfl) rfl rfl ?_; clear hS
    intro tm hS
    refine o_pure hS (.inl rfl) rfl rfl ?_; clear hS
    intro tm hS
    refine o_nil (hR _ _ ?_)
    clear hR R
    refine wpC.ret ?_
    obtain rfl := Option.some.inj h0
    refine Exists.intro _ (And.intro (rs_tmp hS rfl (rs_tmp hS rfl rs_nil)) ?_)
    have hI := hS.inv
    exact ⟨rfl, (hI.sub sn)⟩
   ·replace h0 := iteF hc h0
    refine wpC.skip ?_
    refine c_reg fun R hR => ?_
    refine o_pure hS (.inl rfl) rfl rfl ?_; clear hS
    intro tm hS
    refine o_pure hS (.inl rfl) rfl rfl ?_; clear hS
    intro tm hS
    refine o_pure hS (.inl rfl) rfl rfl ?_; clear hS
    intro tm hS
    refine o_pure hS (.inl rfl) rfl rfl ?_; clear hS
    intro tm hS
    refine o_nil (hR _ _ ?_)
    clear hR R
    refine wpC.ret ?_
    obtain rfl := Option.some.inj h0
    refine Exists.intro _ (And.intro (rs_tmp hS rfl (rs_tmp hS rfl rs_nil)) ?_)
    have hI := hS.inv
    exact ⟨rfl, (hI.sub sn)⟩
  ·replace h0 := iteF hc h0
   refine c_reg fun R hR => ?_
   refine o_pure hS (.inl rfl) rfl rfl ?_; clear hS
   intro tm hS
   refine o_pure hS (.inl rfl) rfl rfl ?_; clear hS
   intro tm hS
   refine o_nil (hR _ _ ?_)
   clear hR R
   refine c_cond hS rfl (fun hc => ?_) (fun hc => ?_)
   ·replace h0 := iteT hc h0
    refine c_reg fun R hR => ?_
    refine o_pure hS (.inl rfl) rfl rfl ?_; clear hS
    intro tm hS
    refine o_pure hS (.inl rfl) rfl rfl ?_; clear hS
    intro tm hS
    obtain ⟨r1, hx1, h0⟩ := bindS h0
    refine o_call hS (.inl rfl) rfl (fun wm' hw1 hw2 => wk122  (decide (b1 > 0))   (hS.sel hw2) hx1) (fun wm' res H hw' hp => ?_)
    obtain ⟨hres, hI⟩ := hp
    replace hres := hres.symm; subst hres
    replace hS : S wm 79 _ H ((24, .int .i64 r1) :: _) ([] ++ _) Fr := hS.after rfl hw' hI
    clear hI hw'
    refine o_pure hS (.inl rfl) rfl rfl ?_; clear hS
    intro tm hS
    refine o_pure hS (.inl rfl) rfl rfl ?_; clear hS
    intro tm hS
    obtain ⟨r2, hx2, h0⟩ := bindS h0
    refine o_call hS (.inl rfl) rfl (fun wm' hw1 hw2 => wk122  (decide (b1 < 0))   (hS.sel hw2) hx2) (fun wm' res H hw' hp => ?_)
    obtain ⟨hres, hI⟩ := hp
    replace hres := hres.symm; subst hres
    replace hS : S wm 79 _ H ((27, .int .i64 r2) :: _) ([] ++ _) Fr := hS.after rfl hw' hI
    clear hI hw'
    refine o_pure hS (.inl rfl) rfl rfl ?_; clear hS
    intro tm hS
    refine o_pure hS (.inl rfl) rfl rfl ?_; clear hS
    intro tm hS
    refine o_pure hS (.inl rfl) rfl rfl ?_; clear hS
    intro tm hS
    refine o_nil (hR _ _ ?_)
    clear hR R
    refine wpC.ret ?_
    obtain rfl := Option.some.inj h0
    refine Exists.intro _ (And.intro (rs_tmp hS rfl (rs_tmp hS rfl rs_nil)) ?_)
    have hI := hS.inv
    exact ⟨rfl, (hI.sub sn)⟩
   ·replace h0 := iteF hc h0
    refine c_reg fun R hR => ?_
    refine o_pure hS (.inl rfl) rfl rfl ?_; clear hS
    intro tm hS
    refine o_pure hS (.inl rfl) rfl rfl ?_; clear hS
    intro tm hS
    refine o_nil (hR _ _ ?_)
    clear hR R
    refine c_cond hS rfl (fun hc => ?_) (fun hc => ?_)
    ·replace h0 := iteT hc h0
     refine c_seqS ?_
     refine c_reg fun R hR => ?_
     refine o_pure hS (.inl rfl) rfl rfl ?_; clear hS
     intro tm hS
     refine o_pure hS (.inl rfl) rfl rfl ?_; clear hS
     intro tm hS
     refine o_pure hS (.inl rfl) rfl rfl ?_; clear hS
     intro tm hS
     obtain ⟨c1, hc1⟩ : ∃ x : Bool, x = ((b1 == 1) || (b1 == (-1))) := ⟨_, rfl⟩
     refine o_cutN 3 (J := fun tm H => S wm 79 tm H [(36, .bool c1), (1, .int .i64 b1)] [] Fr) ?_ ?_
     ·rcases Bool.eq_false_or_eq_true (b1 == 1) with hg1 | hg1
      ·refine o_skip hS rfl rfl rfl hg1 ?_; clear hS
       intro tm hS
       refine o_skip hS rfl rfl rfl hg1 ?_; clear hS
       intro tm hS
       refine o_pickT hS (.inl rfl) rfl rfl hg1 rfl ?_; clear hS
       intro tm hS
       have hc1 : c1 = true := hc1.trans (by rw [hg1]; first | rfl | simp)
       subst hc1
       exact o_nil (hS.keep (ka_cons rfl (ka_cons rfl ka_nil)) (fun hI => (hI.sub sn)))
      ·refine o_pure hS (.inr ⟨_, _, _, _, rfl, rfl, rfl, hg1⟩) rfl rfl ?_; clear hS
       intro tm hS
       refine o_pure hS (.inr ⟨_, _, _, _, rfl, rfl, rfl, hg1⟩) rfl rfl ?_; clear hS
       intro tm hS
       refine o_pickF hS (.inl rfl) rfl rfl hg1 rfl ?_; clear hS
       intro tm hS
       have hc1 : c1 = (b1 == (-1)) := hc1.trans (by rw [hg1]; first | rfl | simp)
       subst hc1
       exact o_nil (hS.keep (ka_cons rfl (ka_cons rfl ka_nil)) (fun hI => (hI.sub sn)))
     intro tm H hS
     subst hc1
     refine o_nil (hR _ _ ?_)
     clear hR R
     refine c_cond hS rfl (fun hc => ?_) (fun hc => ?_)
     ·replace h0 := iteT hc h0
      refine c_reg fun R hR => ?_
      refine o_pure hS (.inl rfl) rfl rfl ?_; clear hS
      intro tm hS
      refine o_pure hS (.inl rfl) rfl rfl ?_; clear hS
      intro tm hS
      refine o_pure hS (.inl rfl) rfl rfl ?_; clear hS
      intro tm hS
      refine o_nil (hR _ _ ?_)
      clear hR R
      refine wpC.ret ?_
      obtain rfl := Option.some.inj h0
      refine Exists.intro _ (And.intro (rs_tmp hS rfl (rs_tmp hS rfl rs_nil)) ?_)
      have hI := hS.inv
      exact ⟨rfl, (hI.sub sn)⟩
     ·replace h0 := iteF hc h0
      refine wpC.skip ?_
      refine c_reg fun R hR => ?_
      refine o_pure hS (.inl rfl) rfl rfl ?_; clear hS
      intro tm hS
      refine o_pure hS (.inl rfl) rfl rfl ?_; clear hS
      intro tm hS
      refine o_nil (hR _ _ ?_)
      clear hR R
      refine wpC.ret ?_
      obtain rfl := Option.some.inj h0
      refine Exists.intro _ (And.intro (rs_tmp hS rfl (rs_tmp hS rfl rs_nil)) ?_)
      have hI := hS.inv
      exact ⟨rfl, (hI.sub sn)⟩
    ·replace h0 := iteF hc h0
     refine c_reg fun R hR => ?_
     refine o_pure hS (.inl rfl) rfl rfl ?_; clear hS
     intro tm hS
     refine o_pure hS (.inl rfl) rfl rfl ?_; clear hS
     intro tm hS
     refine o_nil (hR _ _ ?_)
     clear hR R
     refine c_cond hS rfl (fun hc => ?_) (fun hc => ?_)
     ·replace h0 := iteT hc h0
      refine c_reg fun R hR => ?_
      refine o_pure hS (.inl rfl) rfl rfl ?_; clear hS
      intro tm hS
      refine o_pure hS (.inl rfl) rfl rfl ?_; clear hS
      intro tm hS
      obtain ⟨r3, hx3, h0⟩ := bindS h0
      refine o_call hS (.inl rfl) rfl (fun wm' hw1 hw2 => wk122  (b1 == 0)   (hS.sel hw2) hx3) (fun wm' res H hw' hp => ?_)
      obtain ⟨hres, hI⟩ := hp
      replace hres := hres.symm; subst hres
      replace hS : S wm 79 _ H ((42, .int .i64 r3) :: _) ([] ++ _) Fr := hS.after rfl hw' hI
      clear hI hw'
      refine o_pure hS (.inl rfl) rfl rfl ?_; clear hS
      intro tm hS
      refine o_pure hS (.inl rfl) rfl rfl ?_; clear hS
      intro tm hS
      refine o_pure hS (.inl rfl) rfl rfl ?_; clear hS
      intro tm hS
      refine o_pure hS (.inl rfl) rfl rfl ?_; clear hS
      intro tm hS
      refine o_nil (hR _ _ ?_)
      clear hR R
      refine wpC.ret ?_
      obtain rfl := Option.some.inj h0
      refine Exists.intro _ (And.intro (rs_tmp hS rfl (rs_tmp hS rfl rs_nil)) ?_)
      have hI := hS.inv
      exact ⟨rfl, (hI.sub sn)⟩
     ·replace h0 := iteF hc h0
      refine c_reg fun R hR => ?_
      refine o_pure hS (.inl rfl) rfl rfl ?_; clear hS
      intro tm hS
      refine o_pure hS (.inl rfl) rfl rfl ?_; clear hS
      intro tm hS
      refine o_nil (hR _ _ ?_)
      clear hR R
      refine c_cond hS rfl (fun hc => ?_) (fun hc => ?_)
      ·replace h0 := iteT hc h0
       refine c_seqS ?_
       refine c_reg fun R hR => ?_
       refine o_pure hS (.inl rfl) rfl rfl ?_; clear hS
       intro tm hS
       refine o_pure hS (.inl rfl) rfl rfl ?_; clear hS
       intro tm hS
       refine o_nil (hR _ _ ?_)
       clear hR R
       refine c_cond hS rfl (fun hc => ?_) (fun hc => ?_)
       ·replace h0 := iteT hc h0
        refine c_reg fun R hR => ?_
        refine o_pure hS (.inl rfl) rfl rfl ?_; clear hS
        intro tm hS
        refine o_pure hS (.inl rfl) rfl rfl ?_; clear hS
        intro tm hS
        refine o_nil (hR _ _ ?_)
        clear hR R
        refine wpC.ret ?_
        obtain rfl := Option.some.inj h0
        refine Exists.intro _ (And.intro (rs_tmp hS rfl (rs_tmp hS rfl rs_nil)) ?_)
        have hI := hS.inv
        exact ⟨rfl, (hI.sub sn)⟩
       ·replace h0 := iteF hc h0
        refine wpC.skip ?_
        refine c_seqS ?_
        refine c_reg fun R hR => ?_
        refine o_pure hS (.inl rfl) rfl rfl ?_; clear hS
        intro tm hS
        refine o_pure hS (.inl rfl) rfl rfl ?_; clear hS
        intro tm hS
        refine o_nil (hR _ _ ?_)
        clear hR R
        refine c_cond hS rfl (fun hc => ?_) (fun hc => ?_)
        ·replace h0 := iteT hc h0
         refine c_reg fun R hR => ?_
         refine o_pure hS (.inl rfl) rfl rfl ?_; clear hS
         intro tm hS
         refine o_pure hS (.inl rfl) rfl rfl ?_; clear hS
         intro tm hS
         refine o_pure hS (.inl rfl) rfl rfl ?_; clear hS
         intro tm hS
         refine o_pure hS (.inl rfl) rfl rfl ?_; clear hS
         intro tm hS
         refine o_nil (hR _ _ ?_)
         clear hR R
         refine wpC.ret ?_
         obtain rfl := Option.some.inj h0
         refine Exists.intro _ (And.intro (rs_tmp hS rfl (rs_tmp hS rfl rs_nil)) ?_)
         have hI := hS.inv
         exact ⟨rfl, (hI.sub sn)⟩
        ·replace h0 := iteF hc h0
         refine wpC.skip ?_
         refine c_reg fun R hR => ?_
         refine o_pure hS (.inl rfl) rfl rfl ?_; clear hS
         intro tm hS
         refine o_pure hS (.inl rfl) rfl rfl ?_; clear hS
         intro tm hS
         refine o_pure hS (.inl rfl) rfl rfl ?_; clear hS
         intro tm hS
         refine o_nil (hR _ _ ?_)
         clear hR R
         refine wpC.ret ?_
         obtain rfl := Option.some.inj h0
         refine Exists.intro _ (And.intro (rs_tmp hS rfl (rs_tmp hS rfl rs_nil)) ?_)
         have hI := hS.inv
         exact ⟨rfl, (hI.sub sn)⟩
      ·replace h0 := iteF hc h0
       refine c_reg fun R hR => ?_
       refine o_pure hS (.inl rfl) rfl rfl ?_; clear hS
       intro tm hS
       refine o_pure hS (.inl rfl) rfl rfl ?_; clear hS
       intro tm hS
       refine o_nil (hR _ _ ?_)
       clear hR R
       refine c_cond hS rfl (fun hc => ?_) (fun hc => ?_)
       ·replace h0 := iteT hc h0
        refine c_seqS ?_
        refine c_reg fun R hR => ?_
        refine o_pure hS (.inl rfl) rfl rfl ?_; clear hS
        intro tm hS
        refine o_pure hS (.inl rfl) rfl rfl ?_; clear hS
        intro tm hS
        refine o_pure hS (.inl rfl) rfl rfl ?_; clear hS
        intro tm hS
        obtain ⟨c2, hc2⟩ : ∃ x : Bool, x = ((decide (b1 < 0)) || (decide (b1 > 20))) := ⟨_, rfl⟩
        refine o_cutN 3 (J := fun tm H => S wm 79 tm H [(61, .bool c2), (1, .int .i64 b1)] [] Fr) ?_ ?_
        ·rcases Bool.eq_false_or_eq_true (decide (b1 < 0)) with hg2 | hg2
         ·refine o_skip hS rfl rfl rfl hg2 ?_; clear hS
          intro tm hS
          refine o_skip hS rfl rfl rfl hg2 ?_; clear hS
          intro tm hS
          refine o_pickT hS (.inl rfl) rfl rfl hg2 rfl ?_; clear hS
          intro tm hS
          have hc2 : c2 = true := hc2.trans (by rw [hg2]; first | rfl | simp)
          subst hc2
          exact o_nil (hS.keep (ka_cons rfl (ka_cons rfl ka_nil)) (fun hI => (hI.sub sn)))
         ·refine o_pure hS (.inr ⟨_, _, _, _, rfl, rfl, rfl, hg2⟩) rfl rfl ?_; clear hS
          intro tm hS
          refine o_pure hS (.inr ⟨_, _, _, _, rfl, rfl, rfl, hg2⟩) rfl rfl ?_; clear hS
          intro tm hS
          refine o_pickF hS (.inl rfl) rfl rfl hg2 rfl ?_; clear hS
          intro tm hS
          have hc2 : c2 = (decide (b1 > 20)) := hc2.trans (by rw [hg2]; first | rfl | simp)
          subst hc2
          exact o_nil (hS.keep (ka_cons rfl (ka_cons rfl ka_nil)) (fun hI => (hI.sub sn)))
        intro tm H hS
        subst hc2
        refine o_nil (hR _ _ ?_)
        clear hR R
        refine c_cond hS rfl (fun hc => ?_) (fun hc => ?_)
        ·replace h0 := iteT hc h0
         refine c_reg fun R hR => ?_
         refine o_pure hS (.inl rfl) rfl rfl ?_; clear hS
         intro tm hS
         refine o_pure hS (.inl rfl) rfl rfl ?_; clear hS
         intro tm hS
         refine o_nil (hR _ _ ?_)
         clear hR R
         refine wpC.ret ?_
         obtain rfl := Option.some.inj h0
         refine Exists.intro _ (And.intro (rs_tmp hS rfl (rs_tmp hS rfl rs_nil)) ?_)
         have hI := hS.inv
         exact ⟨rfl, (hI.sub sn)⟩
        ·replace h0 := iteF hc h0
         refine wpC.skip ?_
         refine c_reg fun R hR => ?_
         refine o_pure hS (.inl rfl) rfl rfl ?_; clear hS
         intro tm hS
         refine o_nil (hR _ _ ?_)
         clear hR R
         refine c_seqS ?_
         refine c_reg fun R hR => ?_
         refine o_pure hS (.inl rfl) rfl rfl ?_; clear hS
         intro tm hS
         refine o_nil (hR _ _ ?_)
         clear hR R
         obtain ⟨k1, hw1, h0⟩ := bindS h0
         refine wpC.block ?_
         refine c_loop (I := fun (s : Int × Int) tm H => match (generalizing := false) s with | (c3, i1) => S wm 79 tm H [(1, .int .i64 b1), (6, .int .i64 c3), (7, .int .i64 i1)] [] Fr) hw1 (by change S wm 79 _ _ _ _ Fr; exact hS.keep (ka_cons rfl (ka_cons rfl (ka_cons rfl ka_nil))) (fun hI => (hI.sub sn))) ?_
         clear hS
         intro s1 tm H c4 hS h2 hq2
         obtain ⟨c3, i1⟩ := s1
         change S wm 79 tm H [(1, .int .i64 b1), (6, .int .i64 c3), (7, .int .i64 i1)] [] Fr at hS
         refine c_seqS ?_
         refine c_reg fun R hR => ?_
         refine o_pure hS (.inl rfl) rfl rfl ?_; clear hS
         intro tm hS
         refine o_pure hS (.inl rfl) rfl rfl ?_; clear hS
         intro tm hS
         refine o_pure hS (.inl rfl) rfl rfl ?_; clear hS
         intro tm hS
         refine o_nil (hR _ _ ?_)
         clear hR R
         refine c_cond hS rfl (fun hc => ?_) (fun hc => ?_)
         ·replace h2 := iteT hc h2
          refine wpC.skip ?_
          refine c_seqS ?_
          refine wpC.block ?_
          refine c_reg1 fun R hR => ?_
          refine o_pure hS (.inl rfl) rfl rfl ?_; clear hS
          intro tm hS
          refine o_pure hS (.inl rfl) rfl rfl ?_; clear hS
          intro tm hS
          refine o_pure hS (.inl rfl) rfl rfl ?_; clear hS
          intro tm hS
          refine o_pure hS (.inl rfl) rfl rfl ?_; clear hS
          intro tm hS
          refine o_nil (hR _ _ ?_)
          clear hR R
          refine c_reg1 fun R hR => ?_
          refine o_pure hS (.inl rfl) rfl rfl ?_; clear hS
          intro tm hS
          refine o_pure hS (.inl rfl) rfl rfl ?_; clear hS
          intro tm hS
          refine o_pure hS (.inl rfl) rfl rfl ?_; clear hS
          intro tm hS
          refine o_nil (hR _ _ ?_)
          clear hR R
          obtain rfl := Option.some.inj h2
          refine ⟨_, rfl, ?_⟩
          change S wm 79 _ _ _ _ Fr; exact hS.keep (ka_cons rfl (ka_cons rfl (ka_cons rfl ka_nil))) (fun hI => (hI.sub sn))
         ·replace h2 := iteF hc h2
          refine wpC.exit ?_
          refine seqX ?_
          obtain rfl := Option.some.inj h2
          obtain rfl := hq2 _ rfl
          refine And.intro rfl (blk_eq ?_)
          replace h0 := joinN h0
          refine c_reg fun R hR => ?_
          refine o_pure hS (.inl rfl) rfl rfl ?_; clear hS
          intro tm hS
          refine o_pure hS (.inl rfl) rfl rfl ?_; clear hS
          intro tm hS
          refine o_pure hS (.inl rfl) rfl rfl ?_; clear hS
          intro tm hS
          refine o_nil (hR _ _ ?_)
          clear hR R
          refine wpC.ret ?_
          obtain rfl := Option.some.inj h0
          refine Exists.intro _ (And.intro (rs_tmp hS rfl (rs_tmp hS rfl rs_nil)) ?_)
          have hI := hS.inv
          exact ⟨rfl, (hI.sub sn)⟩
       ·replace h0 := iteF hc h0
        refine wpC.skip ?_
        refine c_seqS ?_
        refine c_reg fun R hR => ?_
        refine o_pure hS (.inl rfl) rfl rfl ?_; clear hS
        intro tm hS
        refine o_pure hS (.inl rfl) rfl rfl ?_; clear hS
        intro tm hS
        refine o_pure hS (.inl rfl) rfl rfl ?_; clear hS
        intro tm hS
        obtain ⟨c5, hc3⟩ : ∃ x : Bool, x = ((b1 == 0) || (b1 == 1)) := ⟨_, rfl⟩
        refine o_cutN 3 (J := fun tm H => S wm 79 tm H [(76, .bool c5), (1, .int .i64 b1)] [] Fr) ?_ ?_
        ·rcases Bool.eq_false_or_eq_true (b1 == 0) with hg3 | hg3
         ·refine o_skip hS rfl rfl rfl hg3 ?_; clear hS
          intro tm hS
          refine o_skip hS rfl rfl rfl hg3 ?_; clear hS
          intro tm hS
          refine o_pickT hS (.inl rfl) rfl rfl hg3 rfl ?_; clear hS
          intro tm hS
          have hc3 : c5 = true := hc3.trans (by rw [hg3]; first | rfl | simp)
          subst hc3
          exact o_nil (hS.keep (ka_cons rfl (ka_cons rfl ka_nil)) (fun hI => (hI.sub sn)))
         ·refine o_pure hS (.inr ⟨_, _, _, _, rfl, rfl, rfl, hg3⟩) rfl rfl ?_; clear hS
          intro tm hS
          refine o_pure hS (.inr ⟨_, _, _, _, rfl, rfl, rfl, hg3⟩) rfl rfl ?_; clear hS
          intro tm hS
          refine o_pickF hS (.inl rfl) rfl rfl hg3 rfl ?_; clear hS
          intro tm hS
          have hc3 : c5 = (b1 == 1) := hc3.trans (by rw [hg3]; first | rfl | simp)
          subst hc3
          exact o_nil (hS.keep (ka_cons rfl (ka_cons rfl ka_nil)) (fun hI => (hI.sub sn)))
        intro tm H hS
        subst hc3
        refine o_nil (hR _ _ ?_)
        clear hR R
        refine c_cond hS rfl (fun hc => ?_) (fun hc => ?_)
        ·replace h0 := iteT hc h0
         refine c_reg fun R hR => ?_
         refine o_pure hS (.inl rfl) rfl rfl ?_; clear hS
         intro tm hS
         refine o_pure hS (.inl rfl) rfl rfl ?_; clear hS
         intro tm hS
         refine o_pure hS (.inl rfl) rfl rfl ?_; clear hS
         intro tm hS
         refine o_pure hS (.inl rfl) rfl rfl ?_; clear hS
         intro tm hS
         refine o_nil (hR _ _ ?_)
         clear hR R
         refine wpC.ret ?_
         obtain rfl := Option.some.inj h0
         refine Exists.intro _ (And.intro (rs_tmp hS rfl (rs_tmp hS rfl rs_nil)) ?_)
         have hI := hS.inv
         exact ⟨rfl, (hI.sub sn)⟩
        ·replace h0 := iteF hc h0
         refine wpC.skip ?_
         refine c_reg fun R hR => ?_
         refine o_pure hS (.inl rfl) rfl rfl ?_; clear hS
         intro tm hS
         refine o_pure hS (.inl rfl) rfl rfl ?_; clear hS
         intro tm hS
         refine o_nil (hR _ _ ?_)
         clear hR R
         refine wpC.ret ?_
         obtain rfl := Option.some.inj h0
         refine Exists.intro _ (And.intro (rs_tmp hS rfl (rs_tmp hS rfl rs_nil)) ?_)
         have hI := hS.inv
         exact ⟨rfl, (hI.sub sn)⟩
theorem wk45 {wm : Nat} {H : AHeap} {Fr : List Ent} (ho76 : ora 76 = false) (fn1 : ByteArray) (b1 : Val)  (v1 : Value) (v2 : Value) (hI : Kn wm H [.fz (rI .i64) v1 b1.Shape, .fz (rI .i64) v2 b1.Data] Fr) {r : Val × Int} (h0 : M.anamnesisref06_Monad fn1 b1 = some r) :
  wpF Try.prog ora wm 45 [.string fn1, .agg #[.bool b1.Char, v1, v2]] H (fun res H => ∃ v9 v10, res = .tuple #[.agg #[.bool r.1.Char, v9, v10], .int .i64 r.2] ∧ Kn wm H [.own (rI .i64) v9 r.1.Shape, .own (rI .i64) v10 r.1.Data] Fr) := by
 unfold M.anamnesisref06_Monad at h0
 refine f_enter (n := 54) Try.func45 rfl (by simp) hI rfl rfl rfl fun tm hS => ?_
 clear hI
 refine c_reg fun R hR => ?_
 refine o_box hS (.inl rfl) rfl rfl rfl (all_cons rfl (all_cons (hS.one (k := 0) rfl (.inl rfl)) (all_cons (hS.one (k := 1) rfl (.inl rfl)) all_nil))) ?_; clear hS H
 intro b2 tm H hS
 refine o_alloc hS (.inl rfl) rfl Fz27 (by decide) ?_; clear hS H
 intro b3 tm H hS
 refine o_pure hS (.inl rfl) rfl rfl ?_; clear hS
 intro tm hS
 refine o_nil (hR _ _ ?_)
 clear hR R
 refine c_seqS ?_
 refine c_reg fun R hR => ?_
 obtain ⟨r1, hx1, h0⟩ := bindS h0
 refine o_call hS (.inl rfl) rfl (fun wm' hw1 hw2 => wk76 ho76    (hS.sel hw2) hx1) (fun wm' res H hw' hp => ?_)
 obtain ⟨v3, hres, hI⟩ := hp
 replace hres := hres.symm; subst hres
 replace hS : S wm 54 _ H ((10, v3) :: _) ([.own rS v3 r1] ++ _) Fr := hS.after rfl hw' hI
 clear hI hw'
 refine o_pure hS (.inl rfl) rfl rfl ?_; clear hS
 intro tm hS
 obtain ⟨r2, hx2, h0⟩ := bindS h0
 refine o_call (Pc := fun _ res H => res = .bool r2 ∧ Kn wm H ([.own rS v3 r1, .box b3 [.bool false, (.slice none 0 0), (.slice none 0 0)], .box b2 [.bool b1.Char, v1, v2], .fz (rI .i64) v1 b1.Shape, .fz (rI .i64) v2 b1.Data]) Fr) hS (.inl rfl) rfl (fun wm' hw1 hw2 => by
  obtain ⟨F2, kk_1, kk_2⟩ := hS.inv.lend (La := [.fz rS v3 r1]) (List.forall_mem_cons.mpr ⟨(.inr ⟨_, _, _, _, rfl, .inl (List.mem_of_getElem? (i := 0) rfl)⟩), (fun _ h => by cases h)⟩) hw1 hw2
  exact (wk47  r1 fn1  v3 kk_1 hx2).mono fun res H2 ⟨qq_1, qq_2⟩ => ⟨qq_1, kk_2 _ qq_2⟩) (fun wm' res H hw' hp => ?_)
 obtain ⟨hres, hI⟩ := hp
 replace hres := hres.symm; subst hres
 replace hS : S wm 54 _ H ((12, .bool r2) :: _) ([.own rS v3 r1, .box b3 [.bool false, (.slice none 0 0), (.slice none 0 0)], .box b2 [.bool b1.Char, v1, v2], .fz (rI .i64) v1 b1.Shape, .fz (rI .i64) v2 b1.Data]) Fr := (hS.put rfl _).withK hI
 clear hI hw'
 refine o_pure hS (.inl rfl) rfl rfl ?_; clear hS
 intro tm hS
 refine o_nil (hR _ _ ?_)
 clear hR R
 refine c_cond hS rfl (fun hc => ?_) (fun hc => ?_)
 ·replace h0 := iteT hc h0
  refine c_reg fun R hR => ?_
  refine o_build hS (.inl rfl) rfl Fb27 rfl .nil rfl ?_; clear hS
  intro tm hS
  refine o_st (k := 1) hS (.inl rfl) rfl rfl rfl Fs27 rfl rfl (all_cons rfl (all_cons rfl (all_cons rfl all_nil))) rfl ?_; clear hS; try clear H
  intro H hS
  refine o_pure hS (.inl rfl) rfl rfl ?_; clear hS
  intro tm hS
  refine o_nil (hR _ _ ?_)
  clear hR R
  refine wpC.ret ?_
  obtain rfl := Option.some.inj h0
  replace hS := hS.nilOwn (rI .i64)
  replace hS := hS.nilOwn (rI .i64)
  refine Exists.intro _ (And.intro (rs_cellA (k := 3) hS rfl rfl (.inl rfl) Fu27 rfl Fs27 rfl (rs_tmp hS rfl rs_nil)) ?_)
  have hI := hS.inv
  exact ⟨(.slice none 0 0), (.slice none 0 0), rfl, (((hI.pull 0 rfl).pull 1 rfl).take 2)⟩
 ·replace h0 := iteF hc h0
  refine wpC.skip ?_
  refine c_seqS ?_
  refine c_reg fun R hR => ?_
  refine o_ldA (k := 2) hS (.inl rfl) rfl rfl rfl (.inl rfl) Fu27 rfl Fs27 rfl ?_; clear hS
  intro tm hS
  obtain ⟨r3, hx3, h0⟩ := bindS h0
  refine o_call hS (.inl rfl) rfl (fun wm' hw1 hw2 => wk77  b1  v1 v2 (((hS.sel hw2).ad 4 rfl).ad 3 rfl) hx3) (fun wm' res H hw' hp => ?_)
  obtain ⟨hres, hI⟩ := hp
  replace hres := hres.symm; subst hres
  replace hS : S wm 54 _ H ((16, .bool r3) :: _) ([] ++ _) Fr := hS.after rfl hw' hI
  clear hI hw'
  refine o_pure hS (.inl rfl) rfl rfl ?_; clear hS
  intro tm hS
  refine o_nil (hR _ _ ?_)
  clear hR R
  refine c_cond hS rfl (fun hc => ?_) (fun hc => ?_)
  ·replace h0 := iteT hc h0
   refine c_reg fun R hR => ?_
   refine o_build hS (.inl rfl) rfl Fb27 rfl .nil rfl ?_; clear hS
   intro tm hS
   refine o_st (k := 1) hS (.inl rfl) rfl rfl rfl Fs27 rfl rfl (all_cons rfl (all_cons rfl (all_cons rfl all_nil))) rfl ?_; clear hS; try clear H
   intro H hS
   refine o_pure hS (.inl rfl) rfl rfl ?_; clear hS
   intro tm hS
   refine o_nil (hR _ _ ?_)
   clear hR R
   refine wpC.ret ?_
   obtain rfl := Option.some.inj h0
   replace hS := hS.nilOwn (rI .i64)
   replace hS := hS.nilOwn (rI .i64)
   refine Exists.intro _ (And.intro (rs_cellA (k := 3) hS rfl rfl (.inl rfl) Fu27 rfl Fs27 rfl (rs_tmp hS rfl rs_nil)) ?_)
   have hI := hS.inv
   exact ⟨(.slice none 0 0), (.slice none 0 0), rfl, (((hI.pull 0 rfl).pull 1 rfl).take 2)⟩
  ·replace h0 := iteF hc h0
   refine wpC.skip ?_
   refine c_seqS ?_
   refine c_reg fun R hR => ?_
   refine o_pure hS (.inl rfl) rfl rfl ?_; clear hS
   intro tm hS
   refine o_ld1 (k := 2) hS (.inl rfl) rfl rfl rfl (.inl rfl) Fu4 rfl rfl ?_; clear hS
   intro tm hS
   refine o_nil (hR _ _ ?_)
   clear hR R
   refine c_cond hS rfl (fun hc => ?_) (fun hc => ?_)
   ·replace h0 := iteT hc h0
    refine c_reg fun R hR => ?_
    refine o_build hS (.inl rfl) rfl Fb27 rfl .nil rfl ?_; clear hS
    intro tm hS
    refine o_st (k := 1) hS (.inl rfl) rfl rfl rfl Fs27 rfl rfl (all_cons rfl (all_cons rfl (all_cons rfl all_nil))) rfl ?_; clear hS; try clear H
    intro H hS
    refine o_pure hS (.inl rfl) rfl rfl ?_; clear hS
    intro tm hS
    refine o_nil (hR _ _ ?_)
    clear hR R
    refine wpC.ret ?_
    obtain rfl := Option.some.inj h0
    replace hS := hS.nilOwn (rI .i64)
    replace hS := hS.nilOwn (rI .i64)
    refine Exists.intro _ (And.intro (rs_cellA (k := 3) hS rfl rfl (.inl rfl) Fu27 rfl Fs27 rfl (rs_tmp hS rfl rs_nil)) ?_)
    have hI := hS.inv
    exact ⟨(.slice none 0 0), (.slice none 0 0), rfl, (((hI.pull 0 rfl).pull 1 rfl).take 2)⟩
   ·replace h0 := iteF hc h0
    refine wpC.skip ?_
    refine c_reg fun R hR => ?_
    refine o_lit (r := (rI .i64)) (l := ([] : List Int)) hS (.inl rfl) rfl Fl22 rfl rfl rfl .nil rfl rfl ri_nil rfl ?_; clear hS H
    intro v4 tm H hS
    refine o_pure hS (.inl rfl) rfl rfl ?_; clear hS
    intro tm hS
    refine o_ld1 (k := 3) hS (.inl rfl) rfl rfl rfl (.inl rfl) Fu22 rfl rfl ?_; clear hS
    intro tm hS
    obtain ⟨l1, hx4, h0⟩ := bindS h0
    refine o_appL (k1 := 0) (k2 := 4) (r := (rI .i64)) hS (.inl rfl) rfl rfl rfl rfl rfl (.inl rfl) rfl Fe22_22 hx4 ?_; clear hS H
    intro v5 tm H hS
    refine o_build hS (.inl rfl) rfl Fb27 rfl (.cons (cells_one (hS.one (k := 0) rfl (.inr (.inl rfl)))) .nil) rfl ?_; clear hS
    intro tm hS
    refine o_alloc hS (.inl rfl) rfl Fz27 (by decide) ?_; clear hS H
    intro b4 tm H hS
    refine o_st (k := 0) hS (.inl rfl) rfl rfl rfl Fs27 rfl rfl (all_cons rfl (all_cons (hS.one (k := 1) rfl (.inr (.inl rfl))) (all_cons rfl all_nil))) rfl ?_; clear hS; try clear H
    intro H hS
    refine o_nil (hR _ _ ?_)
    clear hR R
    refine c_seqS ?_
    refine c_reg fun R hR => ?_
    refine o_pure hS (.inl rfl) rfl rfl ?_; clear hS
    intro tm hS
    refine o_nil (hR _ _ ?_)
    clear hR R
    obtain ⟨k1, hw1, h0⟩ := bindS h0
    refine wpC.block ?_
    replace hS := hS.nilOwn (rI .i64)
    refine c_loop (I := fun (s : Int × (List Int)) tm H => match (generalizing := false) s with | (i1, Data1) => ∃ v6, S wm 54 tm H [(0, .string fn1), (3, .pointer (some ⟨b2, 0, none⟩)), (4, .pointer (some ⟨b3, 0, none⟩)), (6, .pointer (some ⟨b4, 0, none⟩)), (7, .int .i64 i1)] [.box b2 [.bool b1.Char, v1, v2], .box b3 [.bool false, (.slice none 0 0), (.slice none 0 0)], .box b4 [.bool false, v5, v6], .own (rI .i64) v6 Data1, .fz (rI .i64) v1 b1.Shape, .fz (rI .i64) v2 b1.Data, .own (rI .i64) v5 l1] Fr) hw1 (by refine Exists.intro (.slice none 0 0) ?_; change S wm 54 _ _ _ _ Fr; exact hS.keep (ka_cons rfl (ka_cons rfl (ka_cons rfl (ka_cons rfl (ka_cons rfl ka_nil))))) (fun hI => ((((((((hI.pull 2 rfl).pull 7 rfl).pull 7 rfl).pull 3 rfl).pull 4 rfl).pull 6 rfl).pull 7 rfl).take 7))) ?_
    clear hS
    intro s1 tm H c1 hS h1 hq1
    obtain ⟨i1, Data1⟩ := s1
    obtain ⟨v6, hS⟩ := hS
    change S wm 54 tm H [(0, .string fn1), (3, .pointer (some ⟨b2, 0, none⟩)), (4, .pointer (some ⟨b3, 0, none⟩)), (6, .pointer (some ⟨b4, 0, none⟩)), (7, .int .i64 i1)] [.box b2 [.bool b1.Char, v1, v2], .box b3 [.bool false, (.slice none 0 0), (.slice none 0 0)], .box b4 [.bool false, v5, v6], .own (rI .i64) v6 Data1, .fz (rI .i64) v1 b1.Shape, .fz (rI .i64) v2 b1.Data, .own (rI .i64) v5 l1] Fr at hS
    refine c_seqS ?_
    refine c_reg fun R hR => ?_
    refine o_pure hS (.inl rfl) rfl rfl ?_; clear hS
    intro tm hS
    refine o_pure hS (.inl rfl) rfl rfl ?_; clear hS
    intro tm hS
    refine o_ld1 (k := 0) hS (.inl rfl) rfl rfl rfl (.inl rfl) Fu23 rfl rfl ?_; clear hS
    intro tm hS
    refine o_len (k := 5) (r := (rI .i64)) hS (.inl rfl) rfl rfl rfl (.inl rfl) Fu23 rfl ?_; clear hS
    intro tm hS
    refine o_pure hS (.inl rfl) rfl rfl ?_; clear hS
    intro tm hS
    refine o_nil (hR _ _ ?_)
    clear hR R
    refine c_cond hS rfl (fun hc => ?_) (fun hc => ?_)
    ·replace h1 := iteT hc h1
     refine wpC.skip ?_
     refine c_seqS ?_
     refine wpC.block ?_
     refine c_reg fun R hR => ?_
     refine o_pure hS (.inl rfl) rfl rfl ?_; clear hS
     intro tm hS
     refine o_pure hS (.inl rfl) rfl rfl ?_; clear hS
     intro tm hS
     refine o_ld1 (k := 0) hS (.inl rfl) rfl rfl rfl (.inl rfl) Fu23 rfl rfl ?_; clear hS
     intro tm hS
     refine o_pure hS (.inl rfl) rfl rfl ?_; clear hS
     intro tm hS
     obtain ⟨y1, hx5, h1⟩ := bindS h1
     refine o_ixA (k := 5) (r := (rI .i64)) hS (.inl rfl) rfl rfl rfl rfl (.inl rfl) Fu23 Fs2 hx5 ?_; clear hS
     intro tm hS
     refine o_ldF (r := (rI .i64)) (k := 5) hS (.inl rfl) rfl rfl rfl (.inl rfl) hx5 Fu2 rfl (flat_I _) rfl ?_; clear hS
     intro tm hS
     obtain ⟨⟨r4, r5⟩, hx6, h1⟩ := bindS h1
     refine o_call hS (.inl rfl) rfl (fun wm' hw1 hw2 => wk78  fn1 y1   (hS.sel hw2) hx6) (fun wm' res H hw' hp => ?_)
     obtain ⟨hres, hI⟩ := hp
     replace hres := hres.symm; subst hres
     replace hS : S wm 54 _ H ((41, .tuple #[.int .i64 r4, .bool r5]) :: _) ([] ++ _) Fr := hS.after rfl hw' hI
     clear hI hw'
     refine o_pure hS (.inl rfl) rfl rfl ?_; clear hS
     intro tm hS
     refine o_pure hS (.inl rfl) rfl rfl ?_; clear hS
     intro tm hS
     refine o_pure hS (.inl rfl) rfl rfl ?_; clear hS
     intro tm hS
     refine o_pure hS (.inl rfl) rfl rfl ?_; clear hS
     intro tm hS
     refine o_pure hS (.inl rfl) rfl rfl ?_; clear hS
     intro tm hS
     refine o_nil (hR _ _ ?_)
     clear hR R
     refine c_seqS ?_
     refine c_reg fun R hR => ?_
     refine o_pure hS (.inl rfl) rfl rfl ?_; clear hS
     intro tm hS
     refine o_pure hS (.inl rfl) rfl rfl ?_; clear hS
     intro tm hS
     refine o_nil (hR _ _ ?_)
     clear hR R
     refine c_cond hS rfl (fun hc => ?_) (fun hc => ?_)
     ·replace h1 := iteT hc h1
      refine c_reg fun R hR => ?_
      refine o_build hS (.inl rfl) rfl Fb27 rfl .nil rfl ?_; clear hS
      intro tm hS
      refine o_st (k := 1) hS (.inl rfl) rfl rfl rfl Fs27 rfl rfl (all_cons rfl (all_cons rfl (all_cons rfl all_nil))) rfl ?_; clear hS; try clear H
      intro H hS
      refine o_pure hS (.inl rfl) rfl rfl ?_; clear hS
      intro tm hS
      refine o_nil (hR _ _ ?_)
      clear hR R
      refine wpC.ret ?_
      obtain rfl := Option.some.inj h1
      obtain rfl := hq1 _ rfl
      refine And.intro rfl ?_
      obtain rfl := leave h0
      replace hS := hS.nilOwn (rI .i64)
      replace hS := hS.nilOwn (rI .i64)
      refine Exists.intro _ (And.intro (rs_cellA (k := 3) hS rfl rfl (.inl rfl) Fu27 rfl Fs27 rfl (rs_tmp hS rfl rs_nil)) ?_)
      have hI := hS.inv
      exact ⟨(.slice none 0 0), (.slice none 0 0), rfl, (((hI.pull 0 rfl).pull 1 rfl).take 2)⟩
     ·replace h1 := iteF hc h1
      refine wpC.skip ?_
      refine c_reg1 fun R hR => ?_
      refine o_pure hS (.inl rfl) rfl rfl ?_; clear hS
      intro tm hS
      refine o_ld1 (k := 2) hS (.inl rfl) rfl rfl rfl (.inl rfl) Fu23 rfl rfl ?_; clear hS
      intro tm hS
      refine o_pure hS (.inl rfl) rfl rfl ?_; clear hS
      intro tm hS
      refine o_lit (r := (rI .i64)) (l := [r4]) hS (.inl rfl) rfl Fl23 rfl rfl rfl (.cons rfl .nil) rfl rfl (ri_1 (rd_flat fun _ => rfl) ri_nil) rfl ?_; clear hS H
      intro v7 tm H hS
      obtain ⟨l2, hx7, h1⟩ := bindS h1
      refine o_app (k1 := 4) (k2 := 0) (r := (rI .i64)) hS (.inl rfl) rfl rfl rfl rfl rfl (.inr (.inr rfl)) rfl Fe23_23 rfl hx7 ?_; clear hS H
      intro v8 tm H hS
      refine o_pure hS (.inl rfl) rfl rfl ?_; clear hS
      intro tm hS
      refine o_st (k := 3) hS (.inl rfl) rfl rfl rfl Fs23 (cells_one (hS.one (k := 4) rfl (.inr (.inl rfl)))) rfl (all_cons (hS.one (k := 4) rfl (.inr (.inl rfl))) all_nil) rfl ?_; clear hS; try clear H
      intro H hS
      refine o_nil (hR _ _ ?_)
      clear hR R
      refine c_reg1 fun R hR => ?_
      refine o_pure hS (.inl rfl) rfl rfl ?_; clear hS
      intro tm hS
      refine o_pure hS (.inl rfl) rfl rfl ?_; clear hS
      intro tm hS
      refine o_pure hS (.inl rfl) rfl rfl ?_; clear hS
      intro tm hS
      refine o_nil (hR _ _ ?_)
      clear hR R
      obtain rfl := Option.some.inj h1
      refine ⟨_, rfl, ?_⟩
      refine Exists.intro v8 ?_; change S wm 54 _ _ _ _ Fr; exact hS.keep (ka_cons rfl (ka_cons rfl (ka_cons rfl (ka_cons rfl (ka_cons rfl ka_nil))))) (fun hI => (hI.sub (sd (sc (sc (sc (sc (sc (sc (sc sn))))))))))
    ·replace h1 := iteF hc h1
     refine wpC.exit ?_
     refine seqX ?_
     obtain rfl := Option.some.inj h1
     obtain rfl := hq1 _ rfl
     refine And.intro rfl (blk_eq ?_)
     replace h0 := joinN h0
     refine c_reg fun R hR => ?_
     refine o_ldA (k := 2) hS (.inl rfl) rfl rfl rfl (.inl rfl) Fu27 rfl Fs27 rfl ?_; clear hS
     intro tm hS
     refine o_st (k := 1) hS (.inl rfl) rfl rfl rfl Fs27 rfl rfl (all_cons rfl (all_cons (hS.one (k := 6) rfl (.inr (.inl rfl))) (all_cons (hS.one (k := 3) rfl (.inr (.inl rfl))) all_nil))) rfl ?_; clear hS; try clear H
     intro H hS
     refine o_pure hS (.inl rfl) rfl rfl ?_; clear hS
     intro tm hS
     refine o_nil (hR _ _ ?_)
     clear hR R
     refine wpC.ret ?_
     obtain rfl := Option.some.inj h0
     refine Exists.intro _ (And.intro (rs_cellA (k := 1) hS rfl rfl (.inl rfl) Fu27 rfl Fs27 rfl (rs_tmp hS rfl rs_nil)) ?_)
     have hI := hS.inv
     exact ⟨v5, v6, rfl, (((hI.pull 3 rfl).pull 6 rfl).take 2)⟩
theorem wk75 {wm : Nat} {H : AHeap} {Fr : List Ent}  (fn1 : ByteArray)   (hI : Kn wm H [] Fr) {r : Int × Int} (h0 : M.ints_Identity fn1 = some r) :
  wpF Try.prog ora wm 75 [.string fn1] H (fun res H => res = .tuple #[.int .i64 r.1, .int .i64 r.2] ∧ Kn wm H [] Fr) := by
 unfold M.ints_Identity at h0
 refine f_enter (n := 29) Try.func75 rfl (by simp) hI rfl rfl rfl fun tm hS => ?_
 clear hI
 refine c_reg fun R hR => ?_
 refine o_pure hS (.inl rfl) rfl rfl ?_; clear hS
 intro tm hS
 refine o_pure hS (.inl rfl) rfl rfl ?_; clear hS
 intro tm hS
 refine o_nil (hR _ _ ?_)
 clear hR R
 refine c_seqS ?_
 refine c_reg fun R hR => ?_
 refine o_pure hS (.inl rfl) rfl rfl ?_; clear hS
 intro tm hS
 refine o_nil (hR _ _ ?_)
 clear hR R
 refine wpC.block ?_
 obtain ⟨t1, h1, h0⟩ := bindS h0
 refine c_seqJ (J := fun tm H => (match (generalizing := false) t1 with | t1 => S wm 29 tm H [(4, .string fn1), (5, .bool t1)] [] Fr)) ?_ ?_
 ·refine c_reg fun R hR => ?_
  refine o_pure hS (.inl rfl) rfl rfl ?_; clear hS
  intro tm hS
  refine o_pure hS (.inl rfl) rfl rfl ?_; clear hS
  intro tm hS
  refine o_nil (hR _ _ ?_)
  clear hR R
  refine c_cond hS rfl (fun hc => ?_) (fun hc => ?_)
  ·replace h1 := iteT hc h1
   refine wpC.skip ?_
   obtain rfl := Option.some.inj h1
   change S wm 29 _ _ _ _ Fr; exact hS.keep (ka_cons rfl (ka_cons rfl ka_nil)) (fun hI => (hI.sub sn))
  ·replace h1 := iteF hc h1
   refine c_reg fun R hR => ?_
   refine o_pure hS (.inl rfl) rfl rfl ?_; clear hS
   intro tm hS
   refine o_pure hS (.inl rfl) rfl rfl ?_; clear hS
   intro tm hS
   refine o_nil (hR _ _ ?_)
   clear hR R
   refine c_cond hS rfl (fun hc => ?_) (fun hc => ?_)
   ·replace h1 := iteT hc h1
    refine wpC.skip ?_
    obtain rfl := Option.some.inj h1
    change S wm 29 _ _ _ _ Fr; exact hS.keep (ka_cons rfl (ka_cons rfl ka_nil)) (fun hI => (hI.sub sn))
   ·replace h1 := iteF hc h1
    refine c_reg fun R hR => ?_
    refine o_pure hS (.inl rfl) rfl rfl ?_; clear hS
    intro tm hS
    refine o_pure hS (.inl rfl) rfl rfl ?_; clear hS
    intro tm hS
    refine o_nil (hR _ _ ?_)
    clear hR R
    refine c_cond hS rfl (fun hc => ?_) (fun hc => ?_)
    ·replace h1 := iteT hc h1
     refine wpC.skip ?_
     obtain rfl := Option.some.inj h1
     change S wm 29 _ _ _ _ Fr; exact hS.keep (ka_cons rfl (ka_cons rfl ka_nil)) (fun hI => (hI.sub sn))
    ·replace h1 := iteF hc h1
     refine c_reg fun R hR => ?_
     refine o_pure hS (.inl rfl) rfl rfl ?_; clear hS
     intro tm hS
     refine o_pure hS (.inl rfl) rfl rfl ?_; clear hS
     intro tm hS
     refine o_nil (hR _ _ ?_)
     clear hR R
     refine c_cond hS rfl (fun hc => ?_) (fun hc => ?_)
     ·replace h1 := iteT hc h1
      refine wpC.skip ?_
      obtain rfl := Option.some.inj h1
      change S wm 29 _ _ _ _ Fr; exact hS.keep (ka_cons rfl (ka_cons rfl ka_nil)) (fun hI => (hI.sub sn))
     ·replace h1 := iteF hc h1
      refine c_reg fun R hR => ?_
      refine o_pure hS (.inl rfl) rfl rfl ?_; clear hS
      intro tm hS
      refine o_pure hS (.inl rfl) rfl rfl ?_; clear hS
      intro tm hS
      refine o_nil (hR _ _ ?_)
      clear hR R
      refine c_cond hS rfl (fun hc => ?_) (fun hc => ?_)
      ·replace h1 := iteT hc h1
       refine wpC.skip ?_
       obtain rfl := Option.some.inj h1
       change S wm 29 _ _ _ _ Fr; exact hS.keep (ka_cons rfl (ka_cons rfl ka_nil)) (fun hI => (hI.sub sn))
      ·replace h1 := iteF hc h1
       refine c_reg fun R hR => ?_
       refine o_pure hS (.inl rfl) rfl rfl ?_; clear hS
       intro tm hS
       refine o_pure hS (.inl rfl) rfl rfl ?_; clear hS
       intro tm hS
       refine o_nil (hR _ _ ?_)
       clear hR R
       refine c_cond hS rfl (fun hc => ?_) (fun hc => ?_)
       ·replace h1 := iteT hc h1
        refine wpC.skip ?_
        obtain rfl := Option.some.inj h1
        change S wm 29 _ _ _ _ Fr; exact hS.keep (ka_cons rfl (ka_cons rfl ka_nil)) (fun hI => (hI.sub sn))
       ·replace h1 := iteF hc h1
        refine c_reg1 fun R hR => ?_
        refine o_pure hS (.inl rfl) rfl rfl ?_; clear hS
        intro tm hS
        refine o_pure hS (.inl rfl) rfl rfl ?_; clear hS
        intro tm hS
        refine o_nil (hR _ _ ?_)
        clear hR R
        obtain rfl := Option.some.inj h1
        change S wm 29 _ _ _ _ Fr; exact hS.keep (ka_cons rfl (ka_cons rfl ka_nil)) (fun hI => (hI.sub sn))
 intro tm H hS
 change S wm 29 tm H [(4, .string fn1), (5, .bool t1)] [] Fr at hS
 refine c_cond hS rfl (fun hc => ?_) (fun hc => ?_)
 ·replace h0 := iteT hc h0
  refine c_reg fun R hR => ?_
  refine o_pure hS (.inl rfl) rfl rfl ?_; clear hS
  intro tm hS
  refine o_pure hS (.inl rfl) rfl rfl ?_; clear hS
  intro tm hS
  refine o_nil (hR _ _ ?_)
  clear hR R
  refine wpC.ret ?_
  obtain rfl := Option.some.inj h0
  refine Exists.intro _ (And.intro (rs_tmp hS rfl (rs_tmp hS rfl rs_nil)) ?_)
  have hI := hS.inv
  exact ⟨rfl, (hI.sub sn)⟩
 ·replace h0 := iteF hc h0
  obtain ⟨t2, h2, h0⟩ := bindS h0
  refine c_seqJ (J := fun tm H => (match (generalizing := false) t2 with | t2 => S wm 29 tm H [(4, .string fn1), (13, .bool t2)] [] Fr)) ?_ ?_
  ·refine c_reg fun R hR => ?_
   refine o_pure hS (.inl rfl) rfl rfl ?_; clear hS
   intro tm hS
   refine o_pure hS (.inl rfl) rfl rfl ?_; clear hS
   intro tm hS
   refine o_nil (hR _ _ ?_)
   clear hR R
   refine c_cond hS rfl (fun hc => ?_) (fun hc => ?_)
   ·replace h2 := iteT hc h2
    refine wpC.skip ?_
    obtain rfl := Option.some.inj h2
    change S wm 29 _ _ _ _ Fr; exact hS.keep (ka_cons rfl (ka_cons rfl ka_nil)) (fun hI => (hI.sub sn))
   ·replace h2 := iteF hc h2
    refine c_reg fun R hR => ?_
    refine o_pure hS (.inl rfl) rfl rfl ?_; clear hS
    intro tm hS
    refine o_pure hS (.inl rfl) rfl rfl ?_; clear hS
    intro tm hS
    refine o_nil (hR _ _ ?_)
    clear hR R
    refine c_cond hS rfl (fun hc => ?_) (fun hc => ?_)
    ·replace h2 := iteT hc h2
     refine wpC.skip ?_
     obtain rfl := Option.some.inj h2
     change S wm 29 _ _ _ _ Fr; exact hS.keep (ka_cons rfl (ka_cons rfl ka_nil)) (fun hI => (hI.sub sn))
    ·replace h2 := iteF hc h2
     refine c_reg fun R hR => ?_
     refine o_pure hS (.inl rfl) rfl rfl ?_; clear hS
     intro tm hS
     refine o_pure hS (.inl rfl) rfl rfl ?_; clear hS
     intro tm hS
     refine o_nil (hR _ _ ?_)
     clear hR R
     refine c_cond hS rfl (fun hc => ?_) (fun hc => ?_)
     ·replace h2 := iteT hc h2
      refine wpC.skip ?_
      obtain rfl := Option.some.inj h2
      change S wm 29 _ _ _ _ Fr; exact hS.keep (ka_cons rfl (ka_cons rfl ka_nil)) (fun hI => (hI.sub sn))
     ·replace h2 := iteF hc h2
      refine c_reg fun R hR => ?_
      refine o_pure hS (.inl rfl) rfl rfl ?_; clear hS
      intro tm hS
      refine o_pure hS (.inl rfl) rfl rfl ?_; clear hS
      intro tm hS
      refine o_nil (hR _ _ ?_)
      clear hR R
      refine c_cond hS rfl (fun hc => ?_) (fun hc => ?_)
      ·replace h2 := iteT hc h2
       refine wpC.skip ?_
       obtain rfl := Option.some.inj h2
       change S wm 29 _ _ _ _ Fr; exact hS.keep (ka_cons rfl (ka_cons rfl ka_nil)) (fun hI => (hI.sub sn))
      ·replace h2 := iteF hc h2
       refine c_reg fun R hR => ?_
       refine o_pure hS (.inl rfl) rfl rfl ?_; clear hS
       intro tm hS
       refine o_pure hS (.inl rfl) rfl rfl ?_; clear hS
       intro tm hS
       refine o_nil (hR _ _ ?_)
       clear hR R
       refine c_cond hS rfl (fun hc => ?_) (fun hc => ?_)
       ·replace h2 := iteT hc h2
        refine wpC.skip ?_
        obtain rfl := Option.some.inj h2
        change S wm 29 _ _ _ _ Fr; exact hS.keep (ka_cons rfl (ka_cons rfl ka_nil)) (fun hI => (hI.sub sn))
       ·replace h2 := iteF hc h2
        refine c_reg fun R hR => ?_
        refine o_pure hS (.inl rfl) rfl rfl ?_; clear hS
        intro tm hS
        refine o_pure hS (.inl rfl) rfl rfl ?_; clear hS
        intro tm hS
        refine o_nil (hR _ _ ?_)
        clear hR R
        refine c_cond hS rfl (fun hc => ?_) (fun hc => ?_)
        ·replace h2 := iteT hc h2
         refine wpC.skip ?_
         obtain rfl := Option.some.inj h2
         change S wm 29 _ _ _ _ Fr; exact hS.keep (ka_cons rfl (ka_cons rfl ka_nil)) (fun hI => (hI.sub sn))
        ·replace h2 := iteF hc h2
         refine c_reg fun R hR => ?_
         refine o_pure hS (.inl rfl) rfl rfl ?_; clear hS
         intro tm hS
         refine o_pure hS (.inl rfl) rfl rfl ?_; clear hS
         intro tm hS
         refine o_nil (hR _ _ ?_)
         clear hR R
         refine c_cond hS rfl (fun hc => ?_) (fun hc => ?_)
         ·replace h2 := iteT hc h2
          refine wpC.skip ?_
          obtain rfl := Option.some.inj h2
          change S wm 29 _ _ _ _ Fr; exact hS.keep (ka_cons rfl (ka_cons rfl ka_nil)) (fun hI => (hI.sub sn))
         ·replace h2 := iteF hc h2
          refine c_reg1 fun R hR => ?_
          refine o_pure hS (.inl rfl) rfl rfl ?_; clear hS
          intro tm hS
          refine o_pure hS (.inl rfl) rfl rfl ?_; clear hS
          intro tm hS
          refine o_nil (hR _ _ ?_)
          clear hR R
          obtain rfl := Option.some.inj h2
          change S wm 29 _ _ _ _ Fr; exact hS.keep (ka_cons rfl (ka_cons rfl ka_nil)) (fun hI => (hI.sub sn))
  intro tm H hS
  change S wm 29 tm H [(4, .string fn1), (13, .bool t2)] [] Fr at hS
  refine c_cond hS rfl (fun hc => ?_) (fun hc => ?_)
  ·replace h0 := iteT hc h0
   refine c_reg fun R hR => ?_
   refine o_pure hS (.inl rfl) rfl rfl ?_; clear hS
   intro tm hS
   refine o_pure hS (.inl rfl) rfl rfl ?_; clear hS
   intro tm hS
   refine o_nil (hR _ _ ?_)
   clear hR R
   refine wpC.ret ?_
   obtain rfl := Option.some.inj h0
   refine Exists.intro _ (And.intro (rs_tmp hS rfl (rs_tmp hS rfl rs_nil)) ?_)
   have hI := hS.inv
   exact ⟨rfl, (hI.sub sn)⟩
  ·replace h0 := iteF hc h0
   refine c_reg fun R hR => ?_
   refine o_pure hS (.inl rfl) rfl rfl ?_; clear hS
   intro tm hS
   refine o_pure hS (.inl rfl) rfl rfl ?_; clear hS
   intro tm hS
   refine o_nil (hR _ _ ?_)
   clear hR R
   refine c_cond hS rfl (fun hc => ?_) (fun hc => ?_)
   ·replace h0 := iteT hc h0
    refine c_reg fun R hR => ?_
    refine o_pure hS (.inl rfl) rfl rfl ?_; clear hS
    intro tm hS
    refine o_pure hS (.inl rfl) rfl rfl ?_; clear hS
    intro tm hS
    refine o_nil (hR _ _ ?_)
    clear hR R
    refine wpC.ret ?_
    obtain rfl := Option.some.inj h0
    refine Exists.intro _ (And.intro (rs_tmp hS rfl (rs_tmp hS rfl rs_nil)) ?_)
    have hI := hS.inv
    exact ⟨rfl, (hI.sub sn)⟩
   ·replace h0 := iteF hc h0
    refine c_reg fun R hR => ?_
    refine o_pure hS (.inl rfl) rfl rfl ?_; clear hS
    intro tm hS
    refine o_pure hS (.inl rfl) rfl rfl ?_; clear hS
    intro tm hS
    refine o_nil (hR _ _ ?_)
    clear hR R
    refine c_cond hS rfl (fun hc => ?_) (fun hc => ?_)
    ·replace h0 := iteT hc h0
     refine c_reg fun R hR => ?_
     refine o_pure hS (.inl rfl) rfl rfl ?_; clear hS
     intro tm hS
     refine o_pure hS (.inl rfl) rfl rfl ?_; clear hS
     intro tm hS
     refine o_nil (hR _ _ ?_)
     clear hR R
     refine wpC.ret ?_
     obtain rfl := Option.some.inj h0
     refine Exists.intro _ (And.intro (rs_tmp hS rfl (rs_tmp hS rfl rs_nil)) ?_)
     have hI := hS.inv
     exact ⟨rfl, (hI.sub sn)⟩
    ·replace h0 := iteF hc h0
     obtain ⟨t3, h3, h0⟩ := bindS h0
     refine c_seqJ (J := fun tm H => (match (generalizing := false) t3 with | t3 => S wm 29 tm H [(26, .bool t3)] [] Fr)) ?_ ?_
     ·refine c_reg fun R hR => ?_
      refine o_pure hS (.inl rfl) rfl rfl ?_; clear hS
      intro tm hS
      refine o_pure hS (.inl rfl) rfl rfl ?_; clear hS
      intro tm hS
      refine o_nil (hR _ _ ?_)
      clear hR R
      refine c_cond hS rfl (fun hc => ?_) (fun hc => ?_)
      ·replace h3 := iteT hc h3
       refine wpC.skip ?_
       obtain rfl := Option.some.inj h3
       change S wm 29 _ _ _ _ Fr; exact hS.keep (ka_cons rfl ka_nil) (fun hI => (hI.sub sn))
      ·replace h3 := iteF hc h3
       refine c_reg1 fun R hR => ?_
       refine o_pure hS (.inl rfl) rfl rfl ?_; clear hS
       intro tm hS
       refine o_pure hS (.inl rfl) rfl rfl ?_; clear hS
       intro tm hS
       refine o_nil (hR _ _ ?_)
       clear hR R
       obtain rfl := Option.some.inj h3
       change S wm 29 _ _ _ _ Fr; exact hS.keep (ka_cons rfl ka_nil) (fun hI => (hI.sub sn))
     intro tm H hS
     change S wm 29 tm H [(26, .bool t3)] [] Fr at hS
     refine c_cond hS rfl (fun hc => ?_) (fun hc => ?_)
     ·replace h0 := iteT hc h0
      refine c_reg fun R hR => ?_
      refine o_pure hS (.inl rfl) rfl rfl ?_; clear hS
      intro tm hS
      refine o_pure hS (.inl rfl) rfl rfl ?_; clear hS
      intro tm hS
      refine o_nil (hR _ _ ?_)
      clear hR R
      refine wpC.ret ?_
      obtain rfl := Option.some.inj h0
      refine Exists.intro _ (And.intro (rs_tmp hS rfl (rs_tmp hS rfl rs_nil)) ?_)
      have hI := hS.inv
      exact ⟨rfl, (hI.sub sn)⟩
     ·replace h0 := iteF hc h0
      refine wpC.skip ?_
      refine c_reg fun R hR => ?_
      refine o_pure hS (.inl rfl) rfl rfl ?_; clear hS
      intro tm hS
      refine o_pure hS (.inl rfl) rfl rfl ?_; clear hS
      intro tm hS
      refine o_nil (hR _ _ ?_)
      clear hR R
      refine wpC.ret ?_
      obtain rfl := Option.some.inj h0
      refine Exists.intro _ (And.intro (rs_tmp hS rfl (rs_tmp hS rfl rs_nil)) ?_)
      have hI := hS.inv
      exact ⟨rfl, (hI.sub sn)⟩
theorem wk43 {wm : Nat} {H : AHeap} {Fr : List Ent}  (fn1 : ByteArray)   (hI : Kn wm H [] Fr) {r : Bool} (h0 : M.scalar_Is fn1 = some r) :
  wpF Try.prog ora wm 43 [.string fn1] H (fun res H => res = .bool r ∧ Kn wm H [] Fr) := by
 unfold M.scalar_Is at h0
 refine f_enter (n := 12) Try.func43 rfl (by simp) hI rfl rfl rfl fun tm hS => ?_
 clear hI
 refine c_reg fun R hR => ?_
 refine o_pure hS (.inl rfl) rfl rfl ?_; clear hS
 intro tm hS
 refine o_nil (hR _ _ ?_)
 clear hR R
 refine c_reg fun R hR => ?_
 refine o_pure hS (.inl rfl) rfl rfl ?_; clear hS
 intro tm hS
 obtain ⟨⟨r1, r2⟩, hx1, h0⟩ := bindS h0
 refine o_call hS (.inl rfl) rfl (fun wm' hw1 hw2 => wk75  fn1   (hS.sel hw2) hx1) (fun wm' res H hw' hp => ?_)
 obtain ⟨hres, hI⟩ := hp
 replace hres := hres.symm; subst hres
 replace hS : S wm 12 _ H ((7, .tuple #[.int .i64 r1, .int .i64 r2]) :: _) ([] ++ _) Fr := hS.after rfl hw' hI
 clear hI hw'
 refine o_pure hS (.inl rfl) rfl rfl ?_; clear hS
 intro tm hS
 refine o_pure hS (.inl rfl) rfl rfl ?_; clear hS
 intro tm hS
 refine o_pure hS (.inl rfl) rfl rfl ?_; clear hS
 intro tm hS
 refine o_pure hS (.inl rfl) rfl rfl ?_; clear hS
 intro tm hS
 refine o_pure hS (.inl rfl) rfl rfl ?_; clear hS
 intro tm hS
 refine o_nil (hR _ _ ?_)
 clear hR R
 refine c_reg fun R hR => ?_
 refine o_pure hS (.inl rfl) rfl rfl ?_; clear hS
 intro tm hS
 refine o_pure hS (.inl rfl) rfl rfl ?_; clear hS
 intro tm hS
 refine o_pure hS (.inl rfl) rfl rfl ?_; clear hS
 intro tm hS
 refine o_nil (hR _ _ ?_)
 clear hR R
 refine wpC.ret ?_
 obtain rfl := Option.some.inj h0
 refine Exists.intro _ (And.intro (rs_tmp hS rfl rs_nil) ?_)
 have hI := hS.inv
 exact ⟨rfl, (hI.sub sn)⟩
theorem wk81 {wm : Nat} {H : AHeap} {Fr : List Ent}  (s1 : (List Int)) (s2 : (List Int))  (v1 : Value) (v2 : Value) (hI : Kn wm H [.fz (rI .i64) v1 s1, .fz (rI .i64) v2 s2] Fr) {r : Bool} (h0 : M.slices_Equal__int s1 s2 = some r) :
  wpF Try.prog ora wm 81 [v1, v2] H (fun res H => res = .bool r ∧ Kn wm H [] Fr) := by
 unfold M.slices_Equal__int at h0
 refine f_enter (n := 26) Try.func81 rfl (by simp) hI rfl rfl rfl fun tm hS => ?_
 clear hI
 refine c_reg fun R hR => ?_
 refine o_pure hS (.inl rfl) rfl rfl ?_; clear hS
 intro tm hS
 refine o_nil (hR _ _ ?_)
 clear hR R
 refine c_seqS ?_
 refine c_reg fun R hR => ?_
 refine o_pure hS (.inl rfl) rfl rfl ?_; clear hS
 intro tm hS
 refine o_len (k := 0) (r := (rI .i64)) hS (.inl rfl) rfl rfl rfl (.inl rfl) Fu22 rfl ?_; clear hS
 intro tm hS
 refine o_pure hS (.inl rfl) rfl rfl ?_; clear hS
 intro tm hS
 refine o_len (k := 1) (r := (rI .i64)) hS (.inl rfl) rfl rfl rfl (.inl rfl) Fu22 rfl ?_; clear hS
 intro tm hS
 refine o_pure hS (.inl rfl) rfl rfl ?_; clear hS
 intro tm hS
 refine o_nil (hR _ _ ?_)
 clear hR R
 refine c_cond hS rfl (fun hc => ?_) (fun hc => ?_)
 ·replace h0 := iteT hc h0
  refine c_reg fun R hR => ?_
  refine o_pure hS (.inl rfl) rfl rfl ?_; clear hS
  intro tm hS
  refine o_nil (hR _ _ ?_)
  clear hR R
  refine wpC.ret ?_
  obtain rfl := Option.some.inj h0
  refine Exists.intro _ (And.intro (rs_tmp hS rfl rs_nil) ?_)
  have hI := hS.inv
  exact ⟨rfl, (hI.sub sn)⟩
 ·replace h0 := iteF hc h0
  refine wpC.skip ?_
  refine c_seqS ?_
  refine c_reg fun R hR => ?_
  refine o_pure hS (.inl rfl) rfl rfl ?_; clear hS
  intro tm hS
  refine o_len (k := 0) (r := (rI .i64)) hS (.inl rfl) rfl rfl rfl (.inl rfl) Fu22 rfl ?_; clear hS
  intro tm hS
  refine o_pure hS (.inl rfl) rfl rfl ?_; clear hS
  intro tm hS
  refine o_nil (hR _ _ ?_)
  clear hR R
  obtain ⟨k1, hw1, h0⟩ := bindS h0
  refine wpC.block ?_
  refine c_loop (I := fun (s : Int) tm H => match (generalizing := false) s with | t1 => S wm 26 tm H [(0, v1), (1, v2), (12, .int .i64 (s1.length : Int)), (13, .int .i64 t1)] [.fz (rI .i64) v1 s1, .fz (rI .i64) v2 s2] Fr) hw1 (by change S wm 26 _ _ _ _ Fr; exact hS.keep (ka_cons rfl (ka_cons rfl (ka_cons rfl (ka_cons rfl ka_nil)))) (fun hI => (hI.sub (sc (sc sn))))) ?_
  clear hS
  intro t1 tm H c1 hS h1 hq1
  change S wm 26 tm H [(0, v1), (1, v2), (12, .int .i64 (s1.length : Int)), (13, .int .i64 t1)] [.fz (rI .i64) v1 s1, .fz (rI .i64) v2 s2] Fr at hS
  refine c_reg fun R hR => ?_
  refine o_pure hS (.inl rfl) rfl rfl ?_; clear hS
  intro tm hS
  refine o_nil (hR _ _ ?_)
  clear hR R
  refine c_seqS ?_
  refine c_cond hS rfl (fun hc => ?_) (fun hc => ?_)
  ·replace h1 := iteT hc h1
   refine wpC.skip ?_
   refine c_seqS ?_
   refine wpC.block ?_
   refine c_reg fun R hR => ?_
   refine o_pure hS (.inl rfl) rfl rfl ?_; clear hS
   intro tm hS
   refine o_pure hS (.inl rfl) rfl rfl ?_; clear hS
   intro tm hS
   refine o_nil (hR _ _ ?_)
   clear hR R
   refine c_reg fun R hR => ?_
   refine o_pure hS (.inl rfl) rfl rfl ?_; clear hS
   intro tm hS
   refine o_pure hS (.inl rfl) rfl rfl ?_; clear hS
   intro tm hS
   obtain ⟨y1, hx1, h1⟩ := bindS h1
   refine o_ixA (k := 0) (r := (rI .i64)) hS (.inl rfl) rfl rfl rfl rfl (.inl rfl) Fu22 Fs3 hx1 ?_; clear hS
   intro tm hS
   refine o_ldF (r := (rI .i64)) (k := 0) hS (.inl rfl) rfl rfl rfl (.inl rfl) hx1 Fu3 rfl (flat_I _) rfl ?_; clear hS
   intro tm hS
   refine o_pure hS (.inl rfl) rfl rfl ?_; clear hS
   intro tm hS
   refine o_pure hS (.inl rfl) rfl rfl ?_; clear hS
   intro tm hS
   obtain ⟨y2, hx2, h1⟩ := bindS h1
   refine o_ixA (k := 1) (r := (rI .i64)) hS (.inl rfl) rfl rfl rfl rfl (.inl rfl) Fu22 Fs3 hx2 ?_; clear hS
   intro tm hS
   refine o_ldF (r := (rI .i64)) (k := 1) hS (.inl rfl) rfl rfl rfl (.inl rfl) hx2 Fu3 rfl (flat_I _) rfl ?_; clear hS
   intro tm hS
   refine o_pure hS (.inl rfl) rfl rfl ?_; clear hS
   intro tm hS
   refine o_nil (hR _ _ ?_)
   clear hR R
   refine c_cond hS rfl (fun hc => ?_) (fun hc => ?_)
   ·replace h1 := iteT hc h1
    refine c_reg fun R hR => ?_
    refine o_pure hS (.inl rfl) rfl rfl ?_; clear hS
    intro tm hS
    refine o_nil (hR _ _ ?_)
    clear hR R
    refine wpC.ret ?_
    obtain rfl := Option.some.inj h1
    obtain rfl := hq1 _ rfl
    refine And.intro rfl ?_
    obtain rfl := leave h0
    refine Exists.intro _ (And.intro (rs_tmp hS rfl rs_nil) ?_)
    have hI := hS.inv
    exact ⟨rfl, (hI.sub sn)⟩
   ·replace h1 := iteF hc h1
    refine wpC.skip ?_
    refine c_reg1 fun R hR => ?_
    refine o_pure hS (.inl rfl) rfl rfl ?_; clear hS
    intro tm hS
    refine o_pure hS (.inl rfl) rfl rfl ?_; clear hS
    intro tm hS
    refine o_nil (hR _ _ ?_)
    clear hR R
    obtain rfl := Option.some.inj h1
    refine ⟨_, rfl, ?_⟩
    change S wm 26 _ _ _ _ Fr; exact hS.keep (ka_cons rfl (ka_cons rfl (ka_cons rfl (ka_cons rfl ka_nil)))) (fun hI => (hI.sub (sc (sc sn))))
  ·replace h1 := iteF hc h1
   refine wpC.exit ?_
   refine seqX ?_
   obtain rfl := Option.some.inj h1
   obtain rfl := hq1 _ rfl
   refine And.intro rfl (blk_eq ?_)
   replace h0 := joinN h0
   refine c_reg fun R hR => ?_
   refine o_pure hS (.inl rfl) rfl rfl ?_; clear hS
   intro tm hS
   refine o_nil (hR _ _ ?_)
   clear hR R
   refine wpC.ret ?_
   obtain rfl := Option.some.inj h0
   refine Exists.intro _ (And.intro (rs_tmp hS rfl rs_nil) ?_)
   have hI := hS.inv
   exact ⟨rfl, (hI.sub sn)⟩
theorem wk48 {wm : Nat} {H : AHeap} {Fr : List Ent}  (a1 : Val) (b1 : Val)  (v1 : Value) (v2 : Value) (v3 : Value) (v4 : Value) (hI : Kn wm H [.fz (rI .i64) v1 a1.Shape, .fz (rI .i64) v2 a1.Data, .fz (rI .i64) v3 b1.Shape, .fz (rI .i64) v4 b1.Data] Fr) {r : (List Int) × Int × Int} (h0 : M.scalar_alike a1 b1 = some r) :
  wpF Try.prog ora wm 48 [.agg #[.bool a1.Char, v1, v2], .agg #[.bool b1.Char, v3, v4]] H (fun res H => ∃ v5, res = .tuple #[v5, .int .i64 r.2.1, .int .i64 r.2.2] ∧ Kn wm H [.fz (rI .i64) v5 r.1] Fr) := by
 unfold M.scalar_alike at h0
 refine f_enter (n := 57) Try.func48 rfl (by simp) hI rfl rfl rfl fun tm hS => ?_
 clear hI
 refine c_reg fun R hR => ?_
 refine o_box hS (.inl rfl) rfl rfl rfl (all_cons rfl (all_cons (hS.one (k := 0) rfl (.inl rfl)) (all_cons (hS.one (k := 1) rfl (.inl rfl)) all_nil))) ?_; clear hS H
 intro b2 tm H hS
 refine o_box hS (.inl rfl) rfl rfl rfl (all_cons rfl (all_cons (hS.one (k := 3) rfl (.inl rfl)) (all_cons (hS.one (k := 4) rfl (.inl rfl)) all_nil))) ?_; clear hS H
 intro b3 tm H hS
 refine o_pure hS (.inl rfl) rfl rfl ?_; clear hS
 intro tm hS
 refine o_pure hS (.inl rfl) rfl rfl ?_; clear hS
 intro tm hS
 refine o_pure hS (.inl rfl) rfl rfl ?_; clear hS
 intro tm hS
 refine o_nil (hR _ _ ?_)
 clear hR R
 refine c_reg fun R hR => ?_
 refine o_pure hS (.inl rfl) rfl rfl ?_; clear hS
 intro tm hS
 refine o_ld1 (k := 1) hS (.inl rfl) rfl rfl rfl (.inl rfl) Fu23 rfl rfl ?_; clear hS
 intro tm hS
 refine o_len (k := 3) (r := (rI .i64)) hS (.inl rfl) rfl rfl rfl (.inl rfl) Fu23 rfl ?_; clear hS
 intro tm hS
 refine o_pure hS (.inl rfl) rfl rfl ?_; clear hS
 intro tm hS
 refine o_pure hS (.inl rfl) rfl rfl ?_; clear hS
 intro tm hS
 refine o_ld1 (k := 0) hS (.inl rfl) rfl rfl rfl (.inl rfl) Fu23 rfl rfl ?_; clear hS
 intro tm hS
 refine o_len (k := 5) (r := (rI .i64)) hS (.inl rfl) rfl rfl rfl (.inl rfl) Fu23 rfl ?_; clear hS
 intro tm hS
 refine o_pure hS (.inl rfl) rfl rfl ?_; clear hS
 intro tm hS
 refine o_pure hS (.inl rfl) rfl rfl ?_; clear hS
 intro tm hS
 refine o_pure hS (.inl rfl) rfl rfl ?_; clear hS
 intro tm hS
 refine o_nil (hR _ _ ?_)
 clear hR R
 refine c_seqS ?_
 refine wpC.block ?_
 refine c_reg fun R hR => ?_
 refine o_pure hS (.inl rfl) rfl rfl ?_; clear hS
 intro tm hS
 refine o_pure hS (.inl rfl) rfl rfl ?_; clear hS
 intro tm hS
 obtain ⟨c1, hc1⟩ : ∃ x : Bool, x = (((a1.Data.length : Int) == 1) && ((!((b1.Data.length : Int) == 1)) || (decide ((b1.Shape.length : Int) > (a1.Shape.length : Int))))) := ⟨_, rfl⟩
 refine o_cutN 12 (J := fun tm H => S wm 57 tm H [(31, .bool c1), (2, .pointer (some ⟨b2, 0, none⟩)), (3, .pointer (some ⟨b3, 0, none⟩)), (8, .bool ((b1.Data.length : Int) == 1))] [.box b3 [.bool b1.Char, v3, v4], .box b2 [.bool a1.Char, v1, v2], .fz (rI .i64) v1 a1.Shape, .fz (rI .i64) v2 a1.Data, .fz (rI .i64) v3 b1.Shape, .fz (rI .i64) v4 b1.Data] Fr) ?_ ?_
 ·rcases Bool.eq_false_or_eq_true ((a1.Data.length : Int) == 1) with hg1 | hg1
  ·refine o_pure hS (.inr ⟨_, _, _, _, rfl, rfl, rfl, hg1⟩) rfl rfl ?_; clear hS
   intro tm hS
   refine o_pure hS (.inr ⟨_, _, _, _, rfl, rfl, rfl, hg1⟩) rfl rfl ?_; clear hS
   intro tm hS
   refine o_pure hS (.inr ⟨_, _, _, _, rfl, rfl, rfl, hg1⟩) rfl rfl ?_; clear hS
   intro tm hS
   obtain ⟨c2, hc2⟩ : ∃ x : Bool, x = ((!((b1.Data.length : Int) == 1)) || (decide ((b1.Shape.length : Int) > (a1.Shape.length : Int)))) := ⟨_, rfl⟩
   refine o_cutN 8 (J := fun tm H => S wm 57 tm H [(30, .bool c2), (2, .pointer (some ⟨b2, 0, none⟩)), (3, .pointer (some ⟨b3, 0, none⟩)), (8, .bool ((b1.Data.length : Int) == 1)), (19, .bool ((a1.Data.length : Int) == 1))] [.box b3 [.bool b1.Char, v3, v4], .box b2 [.bool a1.Char, v1, v2], .fz (rI .i64) v1 a1.Shape, .fz (rI .i64) v2 a1.Data, .fz (rI .i64) v3 b1.Shape, .fz (rI .i64) v4 b1.Data] Fr) ?_ ?_
   ·rcases Bool.eq_false_or_eq_true (!((b1.Data.length : Int) == 1)) with hg2 | hg2
    ·refine o_skip hS rfl rfl rfl hg2 ?_; clear hS
     intro tm hS
     refine o_skip hS rfl rfl rfl hg2 ?_; clear hS
     intro tm hS
     refine o_skip hS rfl rfl rfl hg2 ?_; clear hS
     intro tm hS
     refine o_skip hS rfl rfl rfl hg2 ?_; clear hS
     intro tm hS
     refine o_skip hS rfl rfl rfl hg2 ?_; clear hS
     intro tm hS
     refine o_skip hS rfl rfl rfl hg2 ?_; clear hS
     intro tm hS
     refine o_skip hS rfl rfl rfl hg2 ?_; clear hS
     intro tm hS
     refine o_pickT hS (.inr ⟨_, _, _, _, rfl, rfl, rfl, hg1⟩) rfl rfl hg2 rfl ?_; clear hS
     intro tm hS
     have hc2 : c2 = true := hc2.trans (by rw [hg2]; first | rfl | simp)
     subst hc2
     exact o_nil (hS.keep (ka_cons rfl (ka_cons rfl (ka_cons rfl (ka_cons rfl (ka_cons rfl ka_nil))))) (fun hI => (hI.sub (sc (sc (sc (sc (sc (sc sn)))))))))
    ·refine o_pure hS (.inr ⟨_, _, _, _, rfl, rfl, rfl, hg2⟩) rfl rfl ?_; clear hS
     intro tm hS
     refine o_ld1 (k := 0) hS (.inr ⟨_, _, _, _, rfl, rfl, rfl, hg2⟩) rfl rfl rfl (.inl rfl) Fu22 rfl rfl ?_; clear hS
     intro tm hS
     refine o_len (k := 4) (r := (rI .i64)) hS (.inr ⟨_, _, _, _, rfl, rfl, rfl, hg2⟩) rfl rfl rfl (.inl rfl) Fu22 rfl ?_; clear hS
     intro tm hS
     refine o_pure hS (.inr ⟨_, _, _, _, rfl, rfl, rfl, hg2⟩) rfl rfl ?_; clear hS
     intro tm hS
     refine o_ld1 (k := 1) hS (.inr ⟨_, _, _, _, rfl, rfl, rfl, hg2⟩) rfl rfl rfl (.inl rfl) Fu22 rfl rfl ?_; clear hS
     intro tm hS
     refine o_len (k := 2) (r := (rI .i64)) hS (.inr ⟨_, _, _, _, rfl, rfl, rfl, hg2⟩) rfl rfl rfl (.inl rfl) Fu22 rfl ?_; clear hS
     intro tm hS
     refine o_pure hS (.inr ⟨_, _, _, _, rfl, rfl, rfl, hg2⟩) rfl rfl ?_; clear hS
     intro tm hS
     refine o_pickF hS (.inr ⟨_, _, _, _, rfl, rfl, rfl, hg1⟩) rfl rfl hg2 rfl ?_; clear hS
     intro tm hS
     have hc2 : c2 = (decide ((b1.Shape.length : Int) > (a1.Shape.length : Int))) := hc2.trans (by rw [hg2]; first | rfl | simp)
     subst hc2
     exact o_nil (hS.keep (ka_cons rfl (ka_cons rfl (ka_cons rfl (ka_cons rfl (ka_cons rfl ka_nil))))) (fun hI => (hI.sub (sc (sc (sc (sc (sc (sc sn)))))))))
   intro tm H hS
   subst hc2
   refine o_pickT hS (.inl rfl) rfl rfl hg1 rfl ?_; clear hS
   intro tm hS
   have hc1 : c1 = ((!((b1.Data.length : Int) == 1)) || (decide ((b1.Shape.length : Int) > (a1.Shape.length : Int)))) := hc1.trans (by rw [hg1]; first | rfl | simp)
   subst hc1
   exact o_nil (hS.keep (ka_cons rfl (ka_cons rfl (ka_cons rfl (ka_cons rfl ka_nil)))) (fun hI => (hI.sub (sc (sc (sc (sc (sc (sc sn)))))))))
  ·refine o_skip hS rfl rfl rfl hg1 ?_; clear hS
   intro tm hS
   refine o_skip hS rfl rfl rfl hg1 ?_; clear hS
   intro tm hS
   refine o_skip hS rfl rfl rfl hg1 ?_; clear hS
   intro tm hS
   refine o_skipU hS rfl rfl rfl ?_; clear hS
   intro tm hS
   refine o_skipU hS rfl rfl rfl ?_; clear hS
   intro tm hS
   refine o_skipU hS rfl rfl rfl ?_; clear hS
   intro tm hS
   refine o_skipU hS rfl rfl rfl ?_; clear hS
   intro tm hS
   refine o_skipU hS rfl rfl rfl ?_; clear hS
   intro tm hS
   refine o_skipU hS rfl rfl rfl ?_; clear hS
   intro tm hS
   refine o_skipU hS rfl rfl rfl ?_; clear hS
   intro tm hS
   refine o_skip hS rfl rfl rfl hg1 ?_; clear hS
   intro tm hS
   refine o_pickF hS (.inl rfl) rfl rfl hg1 rfl ?_; clear hS
   intro tm hS
   have hc1 : c1 = false := hc1.trans (by rw [hg1]; first | rfl | simp)
   subst hc1
   exact o_nil (hS.keep (ka_cons rfl (ka_cons rfl (ka_cons rfl (ka_cons rfl ka_nil)))) (fun hI => (hI.sub (sc (sc (sc (sc (sc (sc sn)))))))))
 intro tm H hS
 subst hc1
 refine o_pure hS (.inl rfl) rfl rfl ?_; clear hS
 intro tm hS
 refine o_nil (hR _ _ ?_)
 clear hR R
 refine c_cond hS rfl (fun hc => ?_) (fun hc => ?_)
 ·replace h0 := iteT hc h0
  refine c_reg fun R hR => ?_
  refine o_pure hS (.inl rfl) rfl rfl ?_; clear hS
  intro tm hS
  refine o_ld1 (k := 0) hS (.inl rfl) rfl rfl rfl (.inl rfl) Fu22 rfl rfl ?_; clear hS
  intro tm hS
  refine o_pure hS (.inl rfl) rfl rfl ?_; clear hS
  intro tm hS
  refine o_ld1 (k := 0) hS (.inl rfl) rfl rfl rfl (.inl rfl) Fu23 rfl rfl ?_; clear hS
  intro tm hS
  refine o_len (k := 5) (r := (rI .i64)) hS (.inl rfl) rfl rfl rfl (.inl rfl) Fu23 rfl ?_; clear hS
  intro tm hS
  refine o_pure hS (.inl rfl) rfl rfl ?_; clear hS
  intro tm hS
  refine o_pure hS (.inl rfl) rfl rfl ?_; clear hS
  intro tm hS
  refine o_pure hS (.inl rfl) rfl rfl ?_; clear hS
  intro tm hS
  refine o_nil (hR _ _ ?_)
  clear hR R
  refine wpC.ret ?_
  obtain rfl := Option.some.inj h0
  refine Exists.intro _ (And.intro (rs_tmp hS rfl (rs_tmp hS rfl (rs_tmp hS rfl rs_nil))) ?_)
  have hI := hS.inv
  exact ⟨v3, rfl, (hI.sub (sd (sd (sd (sd (sc sn))))))⟩
 ·replace h0 := iteF hc h0
  obtain ⟨t1, h1, h0⟩ := bindS h0
  refine c_seqJ (J := fun tm H => (match (generalizing := false) t1 with | t1 => S wm 57 tm H [(2, .pointer (some ⟨b2, 0, none⟩)), (3, .pointer (some ⟨b3, 0, none⟩)), (37, .bool t1)] [.box b2 [.bool a1.Char, v1, v2], .box b3 [.bool b1.Char, v3, v4], .fz (rI .i64) v1 a1.Shape, .fz (rI .i64) v2 a1.Data, .fz (rI .i64) v3 b1.Shape, .fz (rI .i64) v4 b1.Data] Fr)) ?_ ?_
  ·refine c_reg fun R hR => ?_
   refine o_pure hS (.inl rfl) rfl rfl ?_; clear hS
   intro tm hS
   refine o_pure hS (.inl rfl) rfl rfl ?_; clear hS
   intro tm hS
   refine o_nil (hR _ _ ?_)
   clear hR R
   refine c_cond hS rfl (fun hc => ?_) (fun hc => ?_)
   ·replace h1 := iteT hc h1
    refine wpC.skip ?_
    obtain rfl := Option.some.inj h1
    change S wm 57 _ _ _ _ Fr; exact hS.keep (ka_cons rfl (ka_cons rfl (ka_cons rfl ka_nil))) (fun hI => (((((((hI.pull 5 rfl).pull 5 rfl).pull 5 rfl).pull 5 rfl).pull 4 rfl).pull 5 rfl).take 6))
   ·replace h1 := iteF hc h1
    refine c_reg1 fun R hR => ?_
    refine o_pure hS (.inl rfl) rfl rfl ?_; clear hS
    intro tm hS
    refine o_ld1 (k := 1) hS (.inl rfl) rfl rfl rfl (.inl rfl) Fu22 rfl rfl ?_; clear hS
    intro tm hS
    refine o_pure hS (.inl rfl) rfl rfl ?_; clear hS
    intro tm hS
    refine o_ld1 (k := 0) hS (.inl rfl) rfl rfl rfl (.inl rfl) Fu22 rfl rfl ?_; clear hS
    intro tm hS
    obtain ⟨r1, hx1, h1⟩ := bindS h1
    refine o_call hS (.inl rfl) rfl (fun wm' hw1 hw2 => wk81  a1.Shape b1.Shape  v1 v3 (((hS.sel hw2).ad 4 rfl).ad 2 rfl) hx1) (fun wm' res H hw' hp => ?_)
    obtain ⟨hres, hI⟩ := hp
    replace hres := hres.symm; subst hres
    replace hS : S wm 57 _ H ((43, .bool r1) :: _) ([] ++ _) Fr := hS.after rfl hw' hI
    clear hI hw'
    refine o_pure hS (.inl rfl) rfl rfl ?_; clear hS
    intro tm hS
    refine o_nil (hR _ _ ?_)
    clear hR R
    obtain rfl := Option.some.inj h1
    change S wm 57 _ _ _ _ Fr; exact hS.keep (ka_cons rfl (ka_cons rfl (ka_cons rfl ka_nil))) (fun hI => (((((((hI.pull 5 rfl).pull 5 rfl).pull 5 rfl).pull 5 rfl).pull 4 rfl).pull 5 rfl).take 6))
  intro tm H hS
  change S wm 57 tm H [(2, .pointer (some ⟨b2, 0, none⟩)), (3, .pointer (some ⟨b3, 0, none⟩)), (37, .bool t1)] [.box b2 [.bool a1.Char, v1, v2], .box b3 [.bool b1.Char, v3, v4], .fz (rI .i64) v1 a1.Shape, .fz (rI .i64) v2 a1.Data, .fz (rI .i64) v3 b1.Shape, .fz (rI .i64) v4 b1.Data] Fr at hS
  refine c_cond hS rfl (fun hc => ?_) (fun hc => ?_)
  ·replace h0 := iteT hc h0
   refine c_reg fun R hR => ?_
   refine o_pure hS (.inl rfl) rfl rfl ?_; clear hS
   intro tm hS
   refine o_ld1 (k := 0) hS (.inl rfl) rfl rfl rfl (.inl rfl) Fu22 rfl rfl ?_; clear hS
   intro tm hS
   refine o_pure hS (.inl rfl) rfl rfl ?_; clear hS
   intro tm hS
   refine o_ld1 (k := 0) hS (.inl rfl) rfl rfl rfl (.inl rfl) Fu23 rfl rfl ?_; clear hS
   intro tm hS
   refine o_len (k := 3) (r := (rI .i64)) hS (.inl rfl) rfl rfl rfl (.inl rfl) Fu23 rfl ?_; clear hS
   intro tm hS
   refine o_pure hS (.inl rfl) rfl rfl ?_; clear hS
   intro tm hS
   refine o_pure hS (.inl rfl) rfl rfl ?_; clear hS
   intro tm hS
   refine o_pure hS (.inl rfl) rfl rfl ?_; clear hS
   intro tm hS
   refine o_nil (hR _ _ ?_)
   clear hR R
   refine wpC.ret ?_
   obtain rfl := Option.some.inj h0
   refine Exists.intro _ (And.intro (rs_tmp hS rfl (rs_tmp hS rfl (rs_tmp hS rfl rs_nil))) ?_)
   have hI := hS.inv
   exact ⟨v1, rfl, (hI.sub (sd (sd (sc sn))))⟩
  ·replace h0 := iteF hc h0
   refine c_reg fun R hR => ?_
   refine o_pure hS (.inl rfl) rfl rfl ?_; clear hS
   intro tm hS
   refine o_ld1 (k := 0) hS (.inl rfl) rfl rfl rfl (.inl rfl) Fu22 rfl rfl ?_; clear hS
   intro tm hS
   refine o_len (k := 2) (r := (rI .i64)) hS (.inl rfl) rfl rfl rfl (.inl rfl) Fu22 rfl ?_; clear hS
   intro tm hS
   refine o_pure hS (.inl rfl) rfl rfl ?_; clear hS
   intro tm hS
   refine o_ld1 (k := 1) hS (.inl rfl) rfl rfl rfl (.inl rfl) Fu22 rfl rfl ?_; clear hS
   intro tm hS
   refine o_len (k := 4) (r := (rI .i64)) hS (.inl rfl) rfl rfl rfl (.inl rfl) Fu22 rfl ?_; clear hS
   intro tm hS
   refine o_pure hS (.inl rfl) rfl rfl ?_; clear hS
   intro tm hS
   refine o_pure hS (.inl rfl) rfl rfl ?_; clear hS
   intro tm hS
   refine o_nil (hR _ _ ?_)
   clear hR R
   refine c_cond hS rfl (fun hc => ?_) (fun hc => ?_)
   ·replace h0 := iteT hc h0
    refine c_reg fun R hR => ?_
    refine o_pure hS (.inl rfl) rfl rfl ?_; clear hS
    intro tm hS
    refine o_pure hS (.inl rfl) rfl rfl ?_; clear hS
    intro tm hS
    refine o_pure hS (.inl rfl) rfl rfl ?_; clear hS
    intro tm hS
    refine o_nil (hR _ _ ?_)
    clear hR R
    refine wpC.ret ?_
    obtain rfl := Option.some.inj h0
    replace hS := hS.nilFz (rI .i64)
    refine Exists.intro _ (And.intro (rs_tmp hS rfl (rs_tmp hS rfl (rs_tmp hS rfl rs_nil))) ?_)
    have hI := hS.inv
    exact ⟨(.slice none 0 0), rfl, (hI.sub (sc sn))⟩
   ·replace h0 := iteF hc h0
    refine wpC.skip ?_
    refine c_reg fun R hR => ?_
    refine o_pure hS (.inl rfl) rfl rfl ?_; clear hS
    intro tm hS
    refine o_pure hS (.inl rfl) rfl rfl ?_; clear hS
    intro tm hS
    refine o_pure hS (.inl rfl) rfl rfl ?_; clear hS
    intro tm hS
    refine o_nil (hR _ _ ?_)
    clear hR R
    refine wpC.ret ?_
    obtain rfl := Option.some.inj h0
    replace hS := hS.nilFz (rI .i64)
    refine Exists.intro _ (And.intro (rs_tmp hS rfl (rs_tmp hS rfl (rs_tmp hS rfl rs_nil))) ?_)
    have hI := hS.inv
    exact ⟨(.slice none 0 0), rfl, (hI.sub (sc sn))⟩
theorem wk52 {wm : Nat} {H : AHeap} {Fr : List Ent} (ho52 : ora 52 = false)    (hI : Kn wm H [] Fr) {r : Unit} (h0 : M.ints_dyads = some r) :
  wpF Try.prog ora wm 52 [] H (fun res H => ∃ b, res = .map (some b) ∧ Kn wm H [.raw b (.amap (mapE [(str_43, 84), (str_45, 85), (str_195_151, 86), (str_195_183, 87), (str_42, 88), (str_124, 89), (str_33, 90), (str_226_140_136, 91), (str_226_140_138, 92), (str_60, 93), (str_226_137_164, 95), (str_61, 96), (str_226_137_165, 97), (str_62, 98), (str_226_137_160, 99), (str_226_136_167, 100), (str_226_136_168, 102), (str_226_141_178, 103), (str_226_141_177, 104)]))] Fr) := by
 unfold M.ints_dyads at h0
 refine f_enter (n := 3) Try.func52 rfl (by simp [ho52]) hI rfl rfl rfl fun tm hS => ?_
 clear hI
 refine c_reg fun R hR => ?_
 refine o_pure hS (.inl rfl) rfl rfl ?_; clear hS
 intro tm hS
 refine o_nil (hR _ _ ?_)
 clear hR R
 refine c_reg fun R hR => ?_
 refine o_mkmap hS (.inl rfl) rfl ?_; clear hS H
 intro b1 tm H hS
 refine o_insert (k := 0) (key := str_43) (l := []) (l' := [(str_43, 84)]) hS (.inl rfl) rfl rfl rfl rfl Fu71 Fu9 (by kernel_rfl) rfl ?_; clear hS; try clear H
 intro H hS
 change S wm 3 _ H _ [.raw b1 (.amap (mapE [(str_43, 84)]))] Fr at hS
 refine o_insert (k := 0) (key := str_45) (l := [(str_43, 84)]) (l' := [(str_43, 84), (str_45, 85)]) hS (.inl rfl) rfl rfl rfl rfl Fu71 Fu9 (by kernel_rfl) rfl ?_; clear hS; try clear H
 intro H hS
 change S wm 3 _ H _ [.raw b1 (.amap (mapE [(str_43, 84), (str_45, 85)]))] Fr at hS
 refine o_insert (k := 0) (key := str_195_151) (l := [(str_43, 84), (str_45, 85)]) (l' := [(str_43, 84), (str_45, 85), (str_195_151, 86)]) hS (.inl rfl) rfl rfl rfl rfl Fu71 Fu9 (by kernel_rfl) rfl ?_; clear hS; try clear H
 intro H hS
 change S wm 3 _ H _ [.raw b1 (.amap (mapE [(str_43, 84), (str_45, 85), (str_195_151, 86)]))] Fr at hS
 refine o_insert (k := 0) (key := str_195_183) (l := [(str_43, 84), (str_45, 85), (str_195_151, 86)]) (l' := [(str_43, 84), (str_45, 85), (str_195_151, 86), (str_195_183, 87)]) hS (.inl rfl) rfl rfl rfl rfl Fu71 Fu9 (by kernel_rfl) rfl ?_; clear hS; try clear H
 intro H hS
 change S wm 3 _ H _ [.raw b1 (.amap (mapE [(str_43, 84), (str_45, 85), (str_195_151, 86), (str_195_183, 87)]))] Fr at hS
 refine o_insert (k := 0) (key := str_42) (l := [(str_43, 84), (str_45, 85), (str_195_151, 86), (str_195_183, 87)]) (l' := [(str_43, 84), (str_45, 85), (str_195_151, 86), (str_195_183, 87), (str_42, 88)]) hS (.inl rfl) rfl rfl rfl rfl Fu71 Fu9 (by kernel_rfl) rfl ?_; clear hS; try clear H
 intro H hS
 change S wm 3 _ H _ [.raw b1 (.amap (mapE [(str_43, 84), (str_45, 85), (str_195_151, 86), (str_195_183, 87), (str_42, 88)]))] Fr at hS
 refine o_insert (k := 0) (key := str_124) (l := [(str_43, 84), (str_45, 85), (str_195_151, 86), (str_195_183, 87), (str_42, 88)]) (l' := [(str_43, 84), (str_45, 85), (str_195_151, 86), (str_195_183, 87), (str_42, 88), (str_124, 89)]) hS (.inl rfl) rfl rfl rfl rfl Fu71 Fu9 (by kernel_rfl) rfl ?_; clear hS; try clear H
 intro H hS
 change S wm 3 _ H _ [.raw b1 (.amap (mapE [(str_43, 84), (str_45, 85), (str_195_151, 86), (str_195_183, 87), (str_42, 88), (str_124, 89)]))] Fr at hS
 refine o_insert (k := 0) (key := str_33) (l := [(str_43, 84), (str_45, 85), (str_195_151, 86), (str_195_183, 87), (str_42, 88), (str_124, 89)]) (l' := [(str_43, 84), (str_45, 85), (str_195_151, 86), (str_195_183, 87), (str_42, 88), (str_124, 89), (str_33, 90)]) hS (.inl rfl) rfl rfl rfl rfl Fu71 Fu9 (by kernel_rfl) rfl ?_; clear hS; try clear H
 intro H hS
 change S wm 3 _ H _ [.raw b1 (.amap (mapE [(str_43, 84), (str_45, 85), (str_195_151, 86), (str_195_183, 87), (str_42, 88), (str_124, 89), (str_33, 90)]))] Fr at hS
 refine o_insert (k := 0) (key := str_226_140_136) (l := [(str_43, 84), (str_45, 85), (str_195_151, 86), (str_195_183, 87), (str_42, 88), (str_124, 89), (str_33, 90)]) (l' := [(str_43, 84), (str_45, 85), (str_195_151, 86), (str_195_183, 87), (str_42, 88), (str_124, 89), (str_33, 90), (str_226_140_136, 91)]) hS (.inl rfl) rfl rfl rfl rfl Fu71 Fu9 (by kernel_rfl) rfl ?_; clear hS; try clear H
 intro H hS
 change S wm 3 _ H _ [.raw b1 (.amap (mapE [(str_43, 84), (str_45, 85), (str_195_151, 86), (str_195_183, 87), (str_42, 88), (str_124, 89), (str_33, 90), (str_226_140_136, 91)]))] Fr at hS
 refine o_insert (k := 0) (key := str_226_140_138) (l := [(str_43, 84), (str_45, 85), (str_195_151, 86), (str_195_183, 87), (str_42, 88), (str_124, 89), (str_33, 90), (str_226_140_136, 91)]) (l' := [(str_43, 84), (str_45, 85), (str_195_151, 86), (str_195_183, 87), (str_42, 88), (str_124, 89), (str_33, 90), (str_226_140_136, 91), (str_226_140_138, 92)]) hS (.inl rfl) rfl rfl rfl rfl Fu71 Fu9 (by kernel_rfl) rfl ?_; clear hS; try clear H
 intro H hS
 change S wm 3 _ H _ [.raw b1 (.amap (mapE [(str_43, 84), (str_45, 85), (str_195_151, 86), (str_195_183, 87), (str_42, 88), (str_124, 89), (str_33, 90), (str_226_140_136, 91), (str_226_140_138, 92)]))] Fr at hS
 refine o_insert (k := 0) (key := str_60) (l := [(str_43, 84), (str_45, 85), (str_195_151, 86), (str_195_183, 87), (str_42, 88), (str_124, 89), (str_33, 90), (str_226_140_136, 91), (str_226_140_138, 92)]) (l' := [(str_43, 84), (str_45, 85), (str_195_151, 86), (str_195_183, 87), (str_42, 88), (str_124, 89), (str_33, 90), (str_226_140_136, 91), (str_226_140_138, 92), (str_60, 93)]) hS (.inl rfl) rfl rfl rfl rfl Fu71 Fu9 (by kernel_rfl) rfl ?_; clear hS; try clear H
 intro H hS
 change S wm 3 _ H _ [.raw b1 (.amap (mapE [(str_43, 84), (str_45, 85), (str_195_151, 86), (str_195_183, 87), (str_42, 88), (str_124, 89), (str_33, 90), (str_226_140_136, 91), (str_226_140_138, 92), (str_60, 93)]))] Fr at hS
 refine o_insert (k := 0) (key := str_226_137_164) (l := [(str_43, 84), (str_45, 85), (str_195_151, 86), (str_195_183, 87), (str_42, 88), (str_124, 89), (str_33, 90), (str_226_140_136, 91), (str_226_140_138, 92), (str_60, 93)]) (l' := [(str_43, 84), (str_45, 85), (str_195_151, 86), (str_195_183, 87), (str_42, 88), (str_124, 89), (str_33, 90), (str_226_140_136, 91), (str_226_140_138, 92), (str_60, 93), (str_226_137_164, 95)]) hS (.inl rfl) rfl rfl rfl rfl Fu71 Fu9 (by kernel_rfl) rfl ?_; clear hS; try clear H
 intro H hS
 change S wm 3 _ H _ [.raw b1 (.amap (mapE [(str_43, 84), (str_45, 85), (str_195_151, 86), (str_195_183, 87), (str_42, 88), (str_124, 89), (str_33, 90), (str_226_140_136, 91), (str_226_140_138, 92), (str_60, 93), (str_226_137_164, 95)]))] Fr at hS
 refine o_insert (k := 0) (key := str_61) (l := [(str_43, 84), (str_45, 85), (str_195_151, 86), (str_195_183, 87), (str_42, 88), (str_124, 89), (str_33, 90), (str_226_140_136, 91), (str_226_140_138, 92), (str_60, 93), (str_226_137_164, 95)]) (l' := [(str_43, 84), (str_45, 85), (str_195_151, 86), (str_195_183, 87), (str_42, 88), (str_124, 89), (str_33, 90), (str_226_140_136, 91), (str_226_140_138, 92), (str_60, 93), (str_226_137_164, 95), (str_61, 96)]) hS (.inl rfl) rfl rfl rfl rfl Fu71 Fu9 (by kernel_rfl) rfl ?_; clear hS; try clear H
 intro H hS
 change S wm 3 _ H _ [.raw b1 (.amap (mapE [(str_43, 84), (str_45, 85), (str_195_151, 86), (str_195_183, 87), (str_42, 88), (str_124, 89), (str_33, 90), (str_226_140_136, 91), (str_226_140_138, 92), (str_60, 93), (str_226_137_164, 95), (str_61, 96)]))] Fr at hS
 refine o_insert (k := 0) (key := str_226_137_165) (l := [(str_43, 84), (str_45, 85), (str_195_151, 86), (str_195_183, 87), (str_42, 88), (str_124, 89), (str_33, 90), (str_226_140_136, 91), (str_226_140_138, 92), (str_60, 93), (str_226_137_164, 95), (str_61, 96)]) (l' := [(str_43, 84), (str_45, 85), (str_195_151, 86), (str_195_183, 87), (str_42, 88), (str_124, 89), (str_33, 90), (str_226_140_136, 91), (str_226_140_138, 92), (str_60, 93), (str_226_137_164, 95), (str_61, 96), (str_226_137_165, 97)]) hS (.inl rfl) rfl rfl rfl rfl Fu71 Fu9 (by kernel_rfl) rfl ?_; clear hS; try clear H
 intro H hS
 change S wm 3 _ H _ [.raw b1 (.amap (mapE [(str_43, 84), (str_45, 85), (str_195_151, 86), (str_195_183, 87), (str_42, 88), (str_124, 89), (str_33, 90), (str_226_140_136, 91), (str_226_140_138, 92), (str_60, 93), (str_226_137_164, 95), (str_61, 96), (str_226_137_165, 97)]))] Fr at hS
 refine o_insert (k := 0) (key := str_62) (l := [(str_43, 84), (str_45, 85), (str_195_151, 86), (str_195_183, 87), (str_42, 88), (str_124, 89), (str_33, 90), (str_226_140_136, 91), (str_226_140_138, 92), (str_60, 93), (str_226_137_164, 95), (str_61, 96), (str_226_137_165, 97)]) (l' := [(str_43, 84), (str_45, 85), (str_195_151, 86), (str_195_183, 87), (str_42, 88), (str_124, 89), (str_33, 90), (str_226_140_136, 91), (str_226_140_138, 92), (str_60, 93), (str_226_137_164, 95), (str_61, 96), (str_226_137_165, 97), (str_62, 98)]) hS (.inl rfl) rfl rfl rfl rfl Fu71 Fu9 (by kernel_rfl) rfl ?_; clear hS; try clear H
 intro H hS
 change S wm 3 _ H _ [.raw b1 (.amap (mapE [(str_43, 84), (str_45, 85), (str_195_151, 86), (str_195_183, 87), (str_42, 88), (str_124, 89), (str_33, 90), (str_226_140_136, 91), (str_226_140_138, 92), (str_60, 93), (str_226_137_164, 95), (str_61, 96), (str_226_137_165, 97), (str_62, 98)]))] Fr at hS
 refine o_insert (k := 0) (key := str_226_137_160) (l := [(str_43, 84), (str_45, 85), (str_195_151, 86), (str_195_183, 87), (str_42, 88), (str_124, 89), (str_33, 90), (str_226_140_136, 91), (str_226_140_138, 92), (str_60, 93), (str_226_137_164, 95), (str_61, 96), (str_226_137_165, 97), (str_62, 98)]) (l' := [(str_43, 84), (str_45, 85), (str_195_151, 86), (str_195_183, 87), (str_42, 88), (str_124, 89), (str_33, 90), (str_226_140_136, 91), (str_226_140_138, 92), (str_60, 93), (str_226_137_164, 95), (str_61, 96), (str_226_137_165, 97), (str_62, 98), (str_226_137_160, 99)]) hS (.inl rfl) rfl rfl rfl rfl Fu71 Fu9 (by kernel_rfl) rfl ?_; clear hS; try clear H
 intro H hS
 change S wm 3 _ H _ [.raw b1 (.amap (mapE [(str_43, 84), (str_45, 85), (str_195_151, 86), (str_195_183, 87), (str_42, 88), (str_124, 89), (str_33, 90), (str_226_140_136, 91), (str_226_140_138, 92), (str_60, 93), (str_226_137_164, 95), (str_61, 96), (str_226_137_165, 97), (str_62, 98), (str_226_137_160, 99)]))] Fr at hS
 refine o_insert (k := 0) (key := str_226_136_167) (l := [(str_43, 84), (str_45, 85), (str_195_151, 86), (str_195_183, 87), (str_42, 88), (str_124, 89), (str_33, 90), (str_226_140_136, 91), (str_226_140_138, 92), (str_60, 93), (str_226_137_164, 95), (str_61, 96), (str_226_137_165, 97), (str_62, 98), (str_226_137_160, 99)]) (l' := [(str_43, 84), (str_45, 85), (str_195_151, 86), (str_195_183, 87), (str_42, 88), (str_124, 89), (str_33, 90), (str_226_140_136, 91), (str_226_140_138, 92), (str_60, 93), (str_226_137_164, 95), (str_61, 96), (str_226_137_165, 97), (str_62, 98), (str_226_137_160, 99), (str_226_136_167, 100)]) hS (.inl rfl) rfl rfl rfl rfl Fu71 Fu9 (by kernel_rfl) rfl ?_; clear hS; try clear H
 intro H hS
 change S wm 3 _ H _ [.raw b1 (.amap (mapE [(str_43, 84), (str_45, 85), (str_195_151, 86), (str_195_183, 87), (str_42, 88), (str_124, 89), (str_33, 90), (str_226_140_136, 91), (str_226_140_138, 92), (str_60, 93), (str_226_137_164, 95), (str_61, 96), (str_226_137_165, 97), (str_62, 98), (str_226_137_160, 99), (str_226_136_167, 100)]))] Fr at hS
 refine o_insert (k := 0) (key := str_226_136_168) (l := [(str_43, 84), (str_45, 85), (str_195_151, 86), (str_195_183, 87), (str_42, 88), (str_124, 89), (str_33, 90), (str_226_140_136, 91), (str_226_140_138, 92), (str_60, 93), (str_226_137_164, 95), (str_61, 96), (str_226_137_165, 97), (str_62, 98), (str_226_137_160, 99), (str_226_136_167, 100)]) (l' := [(str_43, 84), (str_45, 85), (str_195_151, 86), (str_195_183, 87), (str_42, 88), (str_124, 89), (str_33, 90), (str_226_140_136, 91), (str_226_140_138, 92), (str_60, 93), (str_226_137_164, 95), (str_61, 96), (str_226_137_165, 97), (str_62, 98), (str_226_137_160, 99), (str_226_136_167, 100), (str_226_136_168, 102)]) hS (.inl rfl) rfl rfl rfl rfl Fu71 Fu9 (by kernel_rfl) rfl ?_; clear hS; try clear H
 intro H hS
 change S wm 3 _ H _ [.raw b1 (.amap (mapE [(str_43, 84), (str_45, 85), (str_195_151, 86), (str_195_183, 87), (str_42, 88), (str_124, 89), (str_33, 90), (str_226_140_136, 91), (str_226_140_138, 92), (str_60, 93), (str_226_137_164, 95), (str_61, 96), (str_226_137_165, 97), (str_62, 98), (str_226_137_160, 99), (str_226_136_167, 100), (str_226_136_168, 102)]))] Fr at hS
 refine o_insert (k := 0) (key := str_226_141_178) (l := [(str_43, 84), (str_45, 85), (str_195_151, 86), (str_195_183, 87), (str_42, 88), (str_124, 89), (str_33, 90), (str_226_140_136, 91), (str_226_140_138, 92), (str_60, 93), (str_226_137_164, 95), (str_61, 96), (str_226_137_165, 97), (str_62, 98), (str_226_137_160, 99), (str_226_136_167, 100), (str_226_136_168, 102)]) (l' := [(str_43, 84), (str_45, 85), (str_195_151, 86), (str_195_183, 87), (str_42, 88), (str_124, 89), (str_33, 90), (str_226_140_136, 91), (str_226_140_138, 92), (str_60, 93), (str_226_137_164, 95), (str_61, 96), (str_226_137_165, 97), (str_62, 98), (str_226_137_160, 99), (str_226_136_167, 100), (str_226_136_168, 102), (str_226_141_178, 103)]) hS (.inl rfl) rfl rfl rfl rfl Fu71 Fu9 (by kernel_rfl) rfl ?_; clear hS; try clear H
 intro H hS
 change S wm 3 _ H _ [.raw b1 (.amap (mapE [(str_43, 84), (str_45, 85), (str_195_151, 86), (str_195_183, 87), (str_42, 88), (str_124, 89), (str_33, 90), (str_226_140_136, 91), (str_226_140_138, 92), (str_60, 93), (str_226_137_164, 95), (str_61, 96), (str_226_137_165, 97), (str_62, 98), (str_226_137_160, 99), (str_226_136_167, 100), (str_226_136_168, 102), (str_226_141_178, 103)]))] Fr at hS
 refine o_insert (k := 0) (key := str_226_141_177) (l := [(str_43, 84), (str_45, 85), (str_195_151, 86), (str_195_183, 87), (str_42, 88), (str_124, 89), (str_33, 90), (str_226_140_136, 91), (str_226_140_138, 92), (str_60, 93), (str_226_137_164, 95), (str_61, 96), (str_226_137_165, 97), (str_62, 98), (str_226_137_160, 99), (str_226_136_167, 100), (str_226_136_168, 102), (str_226_141_178, 103)]) (l' := [(str_43, 84), (str_45, 85), (str_195_151, 86), (str_195_183, 87), (str_42, 88), (str_124, 89), (str_33, 90), (str_226_140_136, 91), (str_226_140_138, 92), (str_60, 93), (str_226_137_164, 95), (str_61, 96), (str_226_137_165, 97), (str_62, 98), (str_226_137_160, 99), (str_226_136_167, 100), (str_226_136_168, 102), (str_226_141_178, 103), (str_226_141_177, 104)]) hS (.inl rfl) rfl rfl rfl rfl Fu71 Fu9 (by kernel_rfl) rfl ?_; clear hS; try clear H
 intro H hS
 change S wm 3 _ H _ [.raw b1 (.amap (mapE [(str_43, 84), (str_45, 85), (str_195_151, 86), (str_195_183, 87), (str_42, 88), (str_124, 89), (str_33, 90), (str_226_140_136, 91), (str_226_140_138, 92), (str_60, 93), (str_226_137_164, 95), (str_61, 96), (str_226_137_165, 97), (str_62, 98), (str_226_137_160, 99), (str_226_136_167, 100), (str_226_136_168, 102), (str_226_141_178, 103), (str_226_141_177, 104)]))] Fr at hS
 refine o_pure hS (.inl rfl) rfl rfl ?_; clear hS
 intro tm hS
 refine o_pure hS (.inl rfl) rfl rfl ?_; clear hS
 intro tm hS
 refine o_nil (hR _ _ ?_)
 clear hR R
 refine wpC.ret ?_
 obtain rfl := Option.some.inj h0
 refine Exists.intro _ (And.intro (rs_tmp hS rfl rs_nil) ?_)
 have hI := hS.inv
 exact ⟨b1, rfl, (hI.sub (sc sn))⟩
end Go.Proofs.Ytaedfhikoamfeaa.scalarTells
