/- The abstract machine, with told calls; what is known of memory, as plain data; rules to walk code. -/
import Derived.Test.YtaedfhikoamfeaaAmZ
import Derived.Shelf.Spec.SlicesInsertGrow
set_option linter.unusedVariables false
set_option linter.unusedSimpArgs false
namespace Go.Am
open Go.Proofs Go.Shelf

/-- numbers put into a row of the call's own: it may lie elsewhere behind it. -/
def aIns (wm : Nat) (H : AHeap) (args : List Value) : Option (Value × AHeap) :=
 match args with
 | [.slice (some ⟨b, o, none⟩) n c, .int .i64 i, .slice (some ⟨vb, vo, none⟩) k vc] =>
  match H.get b, H.get vb with
  | some (.row own gr sz cells), some (.row own' gr' sz' vcells) =>
   match cut cells o n, cut vcells vo k with
   | some old, some new =>
    if own = true ∧ sz = 1 ∧ own' = true ∧ gr' = false ∧ sz' = 1 ∧ wm ≤ b ∧ b ≠ vb ∧ 0 < k ∧ 0 < n ∧ 0 ≤ i ∧ i ≤ n ∧ (n + k) * 8 ≤ 140737488355328 then
     some (.slice (some ⟨H.n, 0, none⟩) (n + k) (n + k), (H.set b .dead).push (.row true true 1 (old.take i.toNat ++ new ++ old.drop i.toNat)))
    else none
   | _, _ => none
  | _, _ => none
 | _ => none

/-- a function of a program that is slices.Insert of numbers. -/
def IsIns (P : Program) (f : FuncId) : Prop := ∃ ρ, Lays2.n21 P ρ ∧ ρ.f 21 = f

section
variable {P : Program} {B wm : Nat} {m : Map} {H : AHeap} {w : World}

theorem ins_lew {args : List Value} {v : Value} {H' : AHeap} (h : aIns wm H args = some (v, H')) : H.lew wm H' := by
 unfold aIns at h
 split at h
 case h_2 => simp at h
 split at h
 case h_2 => simp at h
 split at h
 case h_2 => simp at h
 split at h
 case isFalse => simp at h
 rename_i hc
 simp at h
 obtain ⟨_, rfl⟩ := h
 exact AHeap.lew_trans (H.lew_set _ hc.2.2.2.2.2.1) ((AHeap.le_push _ _).lew wm)

theorem lcons_inv {x : Value} {l l' : List Value} (h : lrel m (x :: l) l') : ∃ x' r, vrel m x x' ∧ lrel m l r ∧ l' = x' :: r := by
 cases l' with
 | nil => exact absurd h.1 (by simp)
 | cons y r =>
  refine ⟨y, r, h.2 0 _ _ rfl rfl, ⟨by simpa using h.1, fun i v v' h1 h2 => h.2 (i + 1) v v' (by simpa using h1) (by simpa using h2)⟩, rfl⟩
theorem lnil_inv {l' : List Value} (h : lrel m [] l') : l' = [] := by
 have := h.1
 exact List.length_eq_zero_iff.mp this.symm
theorem mem_cut {C : Array Value} {a n : Nat} {j : Nat} {v : Value} (h : ((C.toList.drop a).take n)[j]? = some v) : C[a + j]? = some v := by
 rw [List.getElem?_take] at h
 split at h
 ·rw [List.getElem?_drop] at h; simpa using h
 ·cases h

/-- a row that is put behind all: its cells are known. -/
theorem fresh_sim (hr : HR B m H w) {b : Nat} (hwm : wm ≤ b) (hmi : mine (H.get b) = true) {g : Img} (hg : m b = some g) {cells cells' : List Value} {C : Array Value} {cap n : Nat} {e : TypeId} {w' : World}
  (hl : lrel m cells cells') (hc : cells.length = n) (hcap : n ≤ cap) (hCs : C.size = cap) (ht : C.toList.take n = cells') (h1 : cells.all oneCell = true) (hmax : cap ≤ 9223372036854775807)
  (hh : w'.heap = w.heap.push (.cells C e (0, 0))) (ho : w'.os = w.os) (htp : w'.tape = w.tape) (hout : w'.output = w.output) :
  ∃ m', Stp B wm m H w m' ((H.set b .dead).push (.row true true 1 cells)) w' ∧ vrel m' (.slice (some ⟨H.n, 0, none⟩) n n) (.slice (some ⟨w.heap.size, 0, none⟩) n cap) := by
 have hkill : Stp B wm m H w m (H.set b .dead) w := Stp.set hr hwm hmi hg trivial rfl (fun _ _ => rfl) rfl rfl rfl
 obtain ⟨m', hst, hm⟩ := new_sim (wm := wm) hkill.hr true 1 (cells := cells) (C := C) e (0, 0) (by rw [hc, ht]; exact hl) (by omega) (clear0 _) h1 (grOk1 rfl (by omega))
 have h2 := Stp.same (wm := wm) (w := w.alloc (.cells C e (0, 0))) (w' := w') hst.hr (by rw [hh]; rfl) ho htp hout
 refine ⟨m', (hkill.trans hst).trans h2, .base (.inl ⟨rfl, rfl, rfl, Nat.le_refl _, hcap, _, hm, rfl, ?_, ?_, fun _ => rfl, ?_⟩)⟩
 ·simp [hc]
 ·simp only; omega
 ·intro hx; simp [hc] at hx

/-- a row that stays where it lay. -/
theorem stays_sim (hr : HR B m H w) {b : Nat} (hwm : wm ≤ b) (hmi : mine (H.get b) = true) {g : Img} (hg : m b = some g) {cells cells' : List Value} {C C' : Array Value} {cap' ao n : Nat} {e : TypeId} {f : Nat × Nat} {w' : World}
  (hl : lrel m cells cells') (hc : cells.length = n) (hcap : n ≤ cap') (hCs : C'.size = C.size) (hsz : C.size = g.nc) (hroom : ao + cap' * 1 ≤ g.nc) (ht : (C'.toList.drop ao).take n = cells') (h1 : cells.all oneCell = true)
  (hf : clearOf f C.size) (hq : C.size ≤ 9223372036854775807)
  (hC' : w'.heap[g.c]? = some (.cells C' e f)) (hs : w'.heap.size = w.heap.size) (hk : ∀ c, c ≠ g.c → w'.heap[c]? = w.heap[c]?) (ho : w'.os = w.os) (htp : w'.tape = w.tape) (hout : w'.output = w.output) :
  ∃ m', Stp B wm m H w m' ((H.set b .dead).push (.row true true 1 cells)) w' ∧ vrel m' (.slice (some ⟨H.n, 0, none⟩) n n) (.slice (some ⟨g.c, ao, none⟩) n cap') := by
 have hstp := Stp.move (wm := wm) hr (b := b) (g := g) (g' := ⟨g.c, ao, n, g.nc, 1, true, true⟩) (o := .row true true 1 cells) hwm hmi hg rfl rfl
  ⟨rfl, rfl, hc.symm, by simp only; omega, C', e, f, hC', by simp only; omega, fun _ => by rw [hCs]; exact hf, by rw [hc, ht]; exact hl, h1, rfl, grOk1 rfl (by rw [hCs]; omega)⟩ hs hk ho htp hout
 refine ⟨_, hstp, .base (.inl ⟨rfl, rfl, rfl, Nat.le_refl _, hcap, _, Map.upd_same _ _ _, rfl, ?_, ?_, ?_, ?_⟩)⟩
 ·simp
 ·simp only; exact hroom
 ·intro _; simp
 ·intro hh; simp at hh

theorem setCells_same (b : Nat) (vs : List Value) (o : Nat) (w : World) (C : Array Value) (e : TypeId) (f : Nat × Nat) (h : w.heap[b]? = some (.cells C e f)) (hl : o + vs.length ≤ C.size) :
  ∃ C' : Array Value, (w.setCells b o vs).heap[b]? = some (.cells C' e f) ∧ C'.toList = C.toList.take o ++ vs ++ C.toList.drop (o + vs.length) ∧ C'.size = C.size ∧ (w.setCells b o vs).heap.size = w.heap.size ∧ (∀ c, c ≠ b → (w.setCells b o vs).heap[c]? = w.heap[c]?) ∧
  (w.setCells b o vs).os = w.os ∧ (w.setCells b o vs).tape = w.tape ∧ (w.setCells b o vs).output = w.output := by
 obtain ⟨⟨C', h1, h2⟩, h3, h4, h5, h6, h7⟩ := setCells_heap b vs o w C e f h hl
 refine ⟨C', h1, h2, ?_, h3, h4, h5, h6, h7⟩
 have := congrArg List.length h2
 simp at this
 omega

theorem ins_sim {f : FuncId} (hf : IsIns P f) {args : List Value} {v : Value} {H' : AHeap} (h : aIns wm H args = some (v, H')) (hr : HR B m H w) {cargs : Array Value} (ha : lrel m args cargs.toList) :
  Calls P f cargs w fun e w' => ∃ v' m', e = .returned v' ∧ vrel m' v v' ∧ Stp B wm m H w m' H' w' := by
 obtain ⟨ρ, L, hρ⟩ := hf
 subst hρ
 unfold aIns at h
 split at h
 case h_2 => simp at h
 rename_i b o n c i vb vo k vc
 split at h
 case h_2 => simp at h
 rename_i own gr sz cells own' gr' sz' vcells hrow hvrow
 split at h
 case h_2 => simp at h
 rename_i old new hold hnew
 split at h
 case isFalse => simp at h
 rename_i hc
 obtain ⟨rfl, rfl, rfl, rfl, rfl, hwm, hbv, hk0, hn0, hi0, hin, hbig⟩ := hc
 simp at h
 obtain ⟨rfl, rfl⟩ := h
 -- the arguments
 obtain ⟨ca, hca⟩ : ∃ l, cargs.toList = l := ⟨_, rfl⟩
 rw [hca] at ha
 obtain ⟨s', r1, hs, ha1, e1⟩ := lcons_inv ha
 obtain ⟨i', r2, hi, ha2, e2⟩ := lcons_inv ha1
 obtain ⟨x', r3, hx, ha3, e3⟩ := lcons_inv ha2
 have e4 := lnil_inv ha3
 subst e4 e3 e2 e1
 obtain rfl := hi.int_inv
 obtain ⟨I, rfl⟩ := Int.eq_ofNat_of_zero_le hi0
 simp only [Int.toNat_natCast]
 obtain ⟨a', cap', rfl, ⟨k1, k2, k3, k4, k5, g, hg, k6, k7, k8, k9, k10⟩ | ⟨_, k3, _, _, _⟩⟩ := hs.slice_inv
 case inr => omega
 obtain ⟨av, vcap', rfl, ⟨q1, q2, q3, q4, q5, gv, hgv, q6, q7, q8, q9, q10⟩ | ⟨_, q3, _, _, _⟩⟩ := hx.slice_inv
 case inr => omega
 obtain ⟨ab, ao, asx⟩ := a'
 obtain ⟨vab, vao, vasx⟩ := av
 simp only at hg hgv k2 k6 k7 k8 k9 q2 q6 q7 q8 q9
 subst k2 k6 q2 q6
 obtain ⟨g1, g2, g3, g4, C, e, f, hC, hsz, hf, hl⟩ := hr.row hrow hg
 obtain ⟨v1, v2, v3, v4, Cv, ev, fv, hCv, hvsz, hvf, hvl⟩ := hr.row hvrow hgv
 have hgrC := ((hr.grOk hrow hg hC) rfl).2
 have hgrV := ((hr.grOk hvrow hgv hCv) rfl).1 rfl
 have kk := k9 (by omega)
 have qq := q9 (by omega)
 rw [g2] at k7 k8
 rw [v2] at q7 q8
 obtain ⟨hor, hob⟩ := row_cut hl (by rw [hsz]; exact g4) hold
 obtain ⟨hnr, hnb⟩ := row_cut hvl (by rw [hvsz]; exact v4) hnew
 rw [← kk] at hor hob
 rw [← qq] at hnr hnb
 have hob1 := all_cut hold (hr.one hrow hg)
 have hnb1 := all_cut hnew (hr.one hvrow hgv)
 obtain ⟨cs, hcs⟩ : ∃ l, l = (C.toList.drop ao).take n := ⟨_, rfl⟩
 obtain ⟨vs, hvs⟩ : ∃ l, l = (Cv.toList.drop vao).take k := ⟨_, rfl⟩
 rw [← hcs] at hor
 rw [← hvs] at hnr
 have hcl : cs.length = n := by rw [hcs]; simp; omega
 have hvl' : vs.length = k := by rw [hvs]; simp; omega
 have hol : old.length = n := by rw [hor.1]; exact hcl
 have hnl : new.length = k := by rw [hnr.1]; exact hvl'
 have h1c := all_oneCell hob1 hor
 have h1v := all_oneCell hnb1 hnr
 have hcc : ∀ j v, cs[j]? = some v → w.cell? ⟨g.c, ao + j, none⟩ = some v := fun j v hj => by
  rw [hcs] at hj; rw [cell_of hC]; exact mem_cut hj
 have hvc : ∀ j v, vs[j]? = some v → w.cell? ⟨gv.c, vao + j, none⟩ = some v := fun j v hj => by
  rw [hvs] at hj; rw [cell_of hCv]; exact mem_cut hj
 have hmi : mine (H.get b) = true := by rw [hrow]; rfl
 have hres : lrel m (old.take I ++ new ++ old.drop I) (cs.take I ++ vs ++ cs.drop I) := ((hor.take I).append hnr).append (hor.drop I)
 have hresl : (old.take I ++ new ++ old.drop I).length = n + k := by simp; omega
 have hres1 : (old.take I ++ new ++ old.drop I).all oneCell = true := all_append (all_append (all_take hob1 I) hnb1) (all_drop hob1 I)
 have hI : I ≤ n := by omega
 have hvb : gv.c ≠ g.c := fun h' => hr.inj _ _ _ _ hbv hmi (by rw [hvrow]; rfl) hg hgv h'.symm
 have hcargs : cargs = #[.slice (some ⟨g.c, ao, none⟩) n cap', .int .i64 (I : Int), .slice (some ⟨gv.c, vao, none⟩) k vcap'] := by
  apply Array.toList_inj.mp; rw [hca]
 rw [hcargs]
 by_cases hroom : n + k ≤ cap'
 ·have hcap63 : cap' ≤ 9223372036854775807 := by omega
  have hsp : ∀ j, j < n + k → (w.cell? ⟨g.c, ao + j, none⟩).isSome = true := fun j hj => by
   rw [cell_of hC, Array.getElem?_eq_getElem (by omega)]; rfl
  have hfz : ∀ j, j < n + k → w.frozen? ⟨g.c, ao + j, none⟩ = false := fun j hj => frozen_of hC (hf rfl) (by omega)
  by_cases hlt : I < n
  ·refine (Any2.slices_Insert_int_shift L g.c ao n cap' I gv.c vao k vcap' cs vs w hlt hk0 hroom hcap63 hvb hcl hvl' hcc hsp hfz hvc h1c h1v ev e Cv.size C.size ?_ ?_ (by omega) (frozen_of hCv (hvf rfl) (by omega)) ?_).mono fun e' w' ⟨he, hw⟩ => ?_
   ·simp [World.shape?, hCv]
   ·simp [World.shape?, hC]
   ·simp only [World.frozen?, hCv]
    simp only [Bool.and_eq_false_iff, decide_eq_false_iff_not]
    by_cases h9 : fv.1 ≤ Cv.size
    ·exact .inr (fun h8 => hgrV ⟨h9, h8⟩)
    ·exact .inl h9
   ·subst hw he
    have hCd : w.drew.heap[g.c]? = some (.cells C e f) := hC
    obtain ⟨C1, p1, p2, p3, p4, p5, p6, p7, p8⟩ := setCells_same g.c (cs.drop I) (ao + (I + k)) w.drew C e f hCd (by simp; omega)
    obtain ⟨C2, r1, r2, r3, r4, r5, r6, r7, r8⟩ := setCells_same g.c vs (ao + I) _ C1 e f p1 (by omega)
    obtain ⟨m', hst, hv⟩ := stays_sim (wm := wm) hr hwm hmi hg (C := C) (C' := C2) (cap' := cap') (ao := ao) (n := n + k) (e := e) (f := f) (w' := (w.drew.setCells g.c (ao + (I + k)) (cs.drop I)).setCells g.c (ao + I) vs) hres hresl hroom (by omega) hsz k8 (by
      rw [r2, p2, List.length_drop, hcl, hvl']
      have e1 : (C.toList.take (ao + (I + k)) ++ cs.drop I ++ C.toList.drop (ao + (I + k) + (n - I))).take (ao + I) = C.toList.take (ao + I) := by
       rw [List.append_assoc, List.take_append_of_le_length (by simp; omega), List.take_take, Nat.min_eq_left (by omega)]
      have e2 : (C.toList.take (ao + (I + k)) ++ cs.drop I ++ C.toList.drop (ao + (I + k) + (n - I))).drop (ao + I + k) = cs.drop I ++ C.toList.drop (ao + (I + k) + (n - I)) := by
       rw [List.append_assoc, List.drop_append_of_le_length (by simp; omega), List.drop_of_length_le (by simp; omega), List.nil_append]
      rw [e1, e2]
      have e3 : (C.toList.take (ao + I)).drop ao = cs.take I := by
       rw [List.drop_take, hcs, List.take_take, Nat.min_eq_left hI]; congr 1; omega
      rw [List.append_assoc, List.drop_append_of_le_length (by simp; omega), e3, ← List.append_assoc, ← List.append_assoc]
      rw [List.take_append_of_le_length (by simp; omega), List.take_of_length_le (by simp; omega)]) hres1 (hf rfl) (by omega) r1 (by rw [r4, p4]; rfl) (fun c hc => by rw [r5 c hc, p5 c hc]; rfl) (by rw [r6, p6]; rfl) (by rw [r7, p7]; rfl) (by rw [r8, p8]; rfl)
    exact ⟨_, m', rfl, hv, by rw [List.append_assoc] at hst; exact hst⟩
  ·obtain rfl : I = n := by omega
   refine (Any2.slices_Insert_int_end_room L g.c ao I cap' gv.c vao k vcap' vs w hk0 hroom hcap63 hvl' (fun j hj => by rw [Nat.add_assoc]; exact hsp _ (by omega)) (fun j hj => by rw [Nat.add_assoc]; exact hfz _ (by omega)) hvc h1v).mono fun e' w' ⟨he, hw⟩ => ?_
   subst hw he
   obtain ⟨C2, r1, r2, r3, r4, r5, r6, r7, r8⟩ := setCells_same g.c vs (ao + I) w C e f hC (by omega)
   obtain ⟨m', hst, hv⟩ := stays_sim (wm := wm) hr hwm hmi hg (C := C) (C' := C2) (cap' := cap') (ao := ao) (n := I + k) (e := e) (f := f) (w' := w.setCells g.c (ao + I) vs) hres hresl hroom r3 hsz k8 (by
     rw [r2, hvl', List.append_assoc, List.drop_append_of_le_length (by simp; omega)]
     have e3 : (C.toList.take (ao + I)).drop ao = cs.take I := by
      rw [List.drop_take, hcs, List.take_take, Nat.min_self]; congr 1; omega
     rw [e3, List.drop_of_length_le (l := cs) (by omega), List.append_nil, ← List.append_assoc]
     rw [List.take_append_of_le_length (by simp; omega), List.take_of_length_le (by simp; omega)]) hres1 (hf rfl) (by omega) r1 r4 r5 r6 r7 r8
   exact ⟨_, m', rfl, hv, by rw [List.append_assoc] at hst; exact hst⟩
 ·have hge := grown_ge w (n + k) cap' (ρ.t 3)
  have hmax : grownCap w (n + k) cap' (ρ.t 3) ≤ 9223372036854775807 := grown_max (by omega)
  have hz1 : ∀ j, (Builtin.zeroCells (Value.int .i64 0).cells j).size = j := fun j => by rw [zsize]; simp [Value.cells]
  by_cases hlt : I < n
  ·refine (Any2.slices_Insert_int_grow L g.c ao n cap' I gv.c vao k vcap' cs vs w hlt hk0 (by omega) (by omega) hbig hcl hvl' hcc hvc h1c h1v).mono fun e' w' ⟨he, hw⟩ => ?_
   subst he
   obtain ⟨X, hX⟩ : ∃ X : Array Value, X = (cs.take I).toArray ++ Builtin.zeroCells (Value.int .i64 0).cells (n + k - I) ++ Builtin.zeroCells (Value.int .i64 0).cells (grownCap w (n + k) cap' (ρ.t 3) - (n + k)) := ⟨_, rfl⟩
   rw [← hX] at hw
   have hXs : X.size = grownCap w (n + k) cap' (ρ.t 3) := by
    rw [hX]; simp only [Array.size_append, hz1]; simp; omega
   have hb0 : (w.alloc (.cells X (ρ.t 3))).drew.heap[w.heap.size]? = some (.cells X (ρ.t 3) (0, 0)) := by show (w.heap.push _)[w.heap.size]? = _; simp
   obtain ⟨C1, p1, p2, p3, p4, p5, p6, p7, p8⟩ := setCells_same w.heap.size vs I (w.alloc (.cells X (ρ.t 3))).drew X (ρ.t 3) (0, 0) hb0 (by omega)
   obtain ⟨C2, r1, r2, r3, r4, r5, r6, r7, r8⟩ := setCells_same w.heap.size (cs.drop I) (I + k) ((w.alloc (.cells X (ρ.t 3))).drew.setCells w.heap.size I vs).drew C1 (ρ.t 3) (0, 0) p1 (by simp; omega)
   rw [← hw] at r1 r4 r5 r6 r7 r8
   obtain ⟨m', hst, hv⟩ := fresh_sim (wm := wm) hr hwm hmi hg (C := C2) (cap := grownCap w (n + k) cap' (ρ.t 3)) (n := n + k) (e := ρ.t 3) (w' := w') hres hresl hge (by omega) (by
     rw [r2, p2, hvl']
     have e1 : (X.toList.take I ++ vs ++ X.toList.drop (I + k)).take (I + k) = X.toList.take I ++ vs := by
      rw [List.take_append_of_le_length (by simp; omega), List.take_of_length_le (by simp; omega)]
     have e2 : X.toList.take I = cs.take I := by
      rw [hX, Array.toList_append, Array.toList_append, List.append_assoc, List.take_append_of_le_length (by simp; omega), List.take_of_length_le (by simp; omega)]
     rw [e1, e2, List.take_append_of_le_length (by simp; omega), List.take_of_length_le (by simp; omega)]) hres1 hmax (by
     have hs1 : w'.heap.size = w.heap.size + 1 := by rw [r4]; show ((w.alloc (.cells X (ρ.t 3))).drew.setCells w.heap.size I vs).heap.size = _; rw [p4]; simp
     apply Array.ext_getElem?
     intro j
     rcases Nat.lt_trichotomy j w.heap.size with hj | hj | hj
     ·rw [r5 j (by omega)]
      show ((w.alloc (.cells X (ρ.t 3))).drew.setCells w.heap.size I vs).heap[j]? = _
      rw [p5 j (by omega)]
      show (w.heap.push _)[j]? = _
      rw [Array.getElem?_push, Array.getElem?_push, if_neg (by omega), if_neg (by omega)]
     ·subst hj
      rw [r1]; simp
     ·rw [Array.getElem?_eq_none (by omega), Array.getElem?_eq_none (by simp; omega)]) (by rw [r6]; exact p6) (by rw [r7]; exact p7) (by rw [r8]; exact p8)
   exact ⟨_, m', rfl, hv, by rw [List.append_assoc] at hst; exact hst⟩
  ·obtain rfl : I = n := by omega
   refine (Any2.slices_Insert_int_end_grow L (some ⟨g.c, ao, none⟩) I cap' gv.c vao k vcap' cs vs w hk0 (by omega) (by omega) hbig hcl hvl' (fun h' => by cases h') (fun a ha j v hj => by
    simp at ha; subst ha
    rw [show (⟨g.c, ao, none⟩ : Addr).add j = ⟨g.c, ao + j, none⟩ from by unfold Addr.add; split <;> simp_all]
    exact hcc j v hj) hvc h1v).mono fun e' w' ⟨he, hw⟩ => ?_
   subst he hw
   obtain ⟨m', hst, hv⟩ := fresh_sim (wm := wm) hr hwm hmi hg (C := (cs ++ vs).toArray ++ Builtin.zeroCells (Value.int .i64 0).cells (grownCap w (I + k) cap' (ρ.t 3) - (I + k))) (cap := grownCap w (I + k) cap' (ρ.t 3)) (n := I + k) (e := ρ.t 3)
    (w' := w.drew.alloc (.cells ((cs ++ vs).toArray ++ Builtin.zeroCells (Value.int .i64 0).cells (grownCap w (I + k) cap' (ρ.t 3) - (I + k))) (ρ.t 3))) hres hresl hge (by simp only [Array.size_append, hz1]; simp; omega) (by
     rw [Array.toList_append, List.take_append_of_le_length (by simp; omega), List.take_of_length_le (by simp; omega), List.take_of_length_le (l := cs) (by omega), List.drop_of_length_le (l := cs) (by omega), List.append_nil]) hres1 hmax rfl rfl rfl rfl
   exact ⟨_, m', rfl, hv, by rw [List.append_assoc] at hst; exact hst⟩
end
end Go.Am

namespace Go.Am

/-- is a function slices.Insert of numbers? -/
def isInsF (fn : Func) : Bool := fn.name == "slices.Insert[[]int,int]"

theorem ins_of {P : Program} {k : Nat} (hk : IsIns P k) (h : (P.funcs.toList.zipIdx.all fun p => !isInsF p.1 || p.2 == k) = true) : ∀ f fn, P.funcs[f]? = some fn → isInsF fn = true → IsIns P f := fun f fn hf hi => by
 have hm : (fn, f) ∈ P.funcs.toList.zipIdx := by
  rw [List.mem_zipIdx_iff_getElem?]
  simpa using hf
 have := (List.all_eq_true.1 h) _ hm
 rw [hi] at this
 have e : f = k := by simpa using this
 rw [e]; exact hk
theorem ins_no {P : Program} (h : (P.funcs.toList.all fun p => !isInsF p) = true) : ∀ f fn, P.funcs[f]? = some fn → isInsF fn = true → IsIns P f := fun f fn hf hi => by
 have hm : fn ∈ P.funcs.toList := List.mem_of_getElem? (i := f) (by simpa using hf)
 have := (List.all_eq_true.1 h) _ hm
 rw [hi] at this; cases this

def aCallX (P : Program) (ora : FuncId → Bool) (F : Nat) : Nat → CallF
 | 0 => fun _ _ _ _ => none
 | d + 1 => fun wm f args H =>
  if ora f && args.isEmpty then some (.bool true, H) else
  match P.funcs[f]? with
  | none => none
  | some fn =>
   if isInsF fn = true then aIns wm H args else
   match fn.body with
   | none => none
   | some c =>
    match aCode P F (aCallX P ora F d) wm c (args ++ List.replicate (fn.ntmps - args.length) undef) H with
    | some (.exit _, _, _) => none
    | some (_, tm, H') =>
     match ress P tm H' fn.results.toList with
     | some vs => some (pack vs, H')
     | none => none
    | none => none

structure OraOk (P : Program) (ora : FuncId → Bool) : Prop where
 body : ∀ f, ora f = true → ∃ fn, P.funcs[f]? = some fn ∧ fn.body.isSome
 ins : ∀ f fn, P.funcs[f]? = some fn → isInsF fn = true → IsIns P f
 run : ∀ f, ora f = true → ∀ w, Calls P f #[] w fun e w' => e = .returned (.bool true) ∧ Go.RowKit.Below w.heap.size w w'

section
variable {P : Program} {ora : FuncId → Bool} {F B : Nat}

theorem Stp.of_below {wm : Nat} {m : Map} {H : AHeap} {w w' : World} (hr : HR B m H w) (h : Go.RowKit.Below w.heap.size w w') : Stp B wm m H w m H w' := by
 have hk : ∀ c, c < w.heap.size → w'.heap[c]? = w.heap[c]? := fun c hc => h.block c hc
 refine ⟨⟨Nat.le_trans hr.le h.size, fun b g hb => ⟨(hr.dom b g hb).1, Nat.lt_of_lt_of_le (hr.dom b g hb).2 h.size⟩, hr.own, fun b o g hg hm => ?_, hr.inj⟩, m.le_refl, fun b g hb => .inl hb, Nat.le_refl _, h.size, fun c hc _ => hk c hc, fun c _ hw => hw, h.os, h.tape, h.output⟩
 rw [hk _ (hr.dom b g hm).2]
 exact hr.obj b o g hg hm

theorem callX_parts {d wm : Nat} {f : FuncId} {args : List Value} {H : AHeap} {v : Value} {H' : AHeap} (h : aCallX P ora F (d + 1) wm f args H = some (v, H')) :
  (ora f = true ∧ args = [] ∧ v = .bool true ∧ H' = H) ∨ (∃ fn, P.funcs[f]? = some fn ∧ isInsF fn = true ∧ aIns wm H args = some (v, H')) ∨
  ∃ fn c e tm vs, P.funcs[f]? = some fn ∧ fn.body = some c ∧ aCode P F (aCallX P ora F d) wm c (args ++ List.replicate (fn.ntmps - args.length) undef) H = some (e, tm, H') ∧ (e = .normal ∨ e = .ret) ∧ ress P tm H' fn.results.toList = some vs ∧ v = pack vs := by
 simp only [aCallX] at h
 by_cases ho : (ora f && args.isEmpty) = true
 ·rw [if_pos ho] at h
  simp only [Bool.and_eq_true, List.isEmpty_iff] at ho
  simp at h
  exact .inl ⟨ho.1, ho.2, h.1.symm, h.2.symm⟩
 rw [if_neg ho] at h
 refine .inr ?_
 cases hfn : P.funcs[f]? with
 | none => simp [hfn] at h
 | some fn =>
  simp only [hfn] at h
  by_cases hins : isInsF fn = true
  ·rw [if_pos hins] at h
   exact .inl ⟨fn, rfl, hins, h⟩
  rw [if_neg hins] at h
  refine .inr ?_
  cases hc : fn.body with
  | none => simp [hc] at h
  | some c =>
   simp only [hc] at h
   cases hrun : aCode P F (aCallX P ora F d) wm c (args ++ List.replicate (fn.ntmps - args.length) undef) H with
   | none => simp [hrun] at h
   | some r =>
    obtain ⟨e, tm, H1⟩ := r
    cases hvs : ress P tm H1 fn.results.toList with
    | none => cases e <;> simp [hrun, hvs] at h
    | some vs =>
     cases e with
     | exit id => simp [hrun] at h
     | normal => simp [hrun, hvs] at h; obtain ⟨rfl, rfl⟩ := h; exact ⟨fn, c, .normal, tm, vs, rfl, hc, hrun, .inl rfl, hvs, rfl⟩
     | ret => simp [hrun, hvs] at h; obtain ⟨rfl, rfl⟩ := h; exact ⟨fn, c, .ret, tm, vs, rfl, hc, hrun, .inr rfl, hvs, rfl⟩

theorem callX_lew : ∀ (d wm : Nat) (f : FuncId) (args : List Value) (H : AHeap) (v : Value) (H' : AHeap), aCallX P ora F d wm f args H = some (v, H') → H.lew wm H' := by
 intro d
 induction d with
 | zero => intro wm f args H v H' h; simp [aCallX] at h
 | succ d ih =>
  intro wm f args H v H' h
  rcases callX_parts h with ⟨_, _, _, rfl⟩ | ⟨fn, _, _, hi⟩ | ⟨fn, c, e, tm, vs, _, _, hrun, _⟩
  ·exact (H'.le_refl).lew wm
  ·exact ins_lew hi
  ·exact code_lew ih c _ _ _ _ _ hrun

theorem callX_sim (hP : ProgOk P) (ho : OraOk P ora) : ∀ d, CfOk P B (aCallX P ora F d) := by
 intro d
 induction d with
 | zero => exact ⟨fun wm f args H v H' h => by simp [aCallX] at h, fun wm f args H v H' h => by simp [aCallX] at h, fun wm f args H v H' h => by simp [aCallX] at h⟩
 | succ d ih =>
  refine ⟨fun wm f args H v H' h m w cargs hr hargs => ?_, fun wm f args H v H' h => callX_lew (d + 1) wm f args H v H' h, fun wm f args H v H' h => ?_⟩
  ·rcases callX_parts h with ⟨h1, h2, rfl, rfl⟩ | ⟨fn, hfn, hins, hi⟩ | ⟨fn, c, e, tm, vs, hfn, hc, hrun, he, hvs, rfl⟩
   rotate_left
   ·exact ins_sim (ho.ins f fn hfn hins) hi hr hargs
   rotate_left
   ·subst h2
    have hcs : cargs = #[] := by
     have := hargs.1
     have : cargs.size = 0 := by simpa using this.symm
     exact Array.eq_empty_of_size_eq_zero this
    subst hcs
    exact (ho.run f h1 w).mono fun e w' ⟨he, hb⟩ => ⟨.bool true, m, he, .base rfl, Stp.of_below hr hb⟩
   ·have hok : (codeOk c || pairOk fn.ntmps c) = true := by have := hP.draw f fn hfn; simpa [funcOk, hc] using this
    have hlen : args.length = cargs.size := by have := hargs.1; simpa using this
    have hfr : lrel m (args ++ List.replicate (fn.ntmps - args.length) undef) (cargs ++ Array.replicate (fn.ntmps - cargs.size) undef).toList := by
     rw [Array.toList_append, Array.toList_replicate, hlen]
     exact hargs.append (lrel.replicate _ (vrel.undef m))
    refine calls_of_wp hfn hc ?_
    refine body_sim ih hP hok (by simp; omega) hrun m w _ hr hfr _ (fun a w' hp => ?_)
    obtain ⟨hd, m1, hst, ht⟩ := hp
    obtain ⟨v', h1, h2⟩ := results_run (P := P) hst.hr (fn := fn) ht hvs
    have hend : a.defers = [] ∧ ∃ v, (results fn a.tmps).run P w' = .ok v w' ∧ (∃ v' m', Ending.returned v = .returned v' ∧ vrel m' (pack vs) v' ∧ Stp B wm m H w m' H' w') := ⟨hd, v', h1, v', m1, rfl, h2, hst⟩
    rcases he with rfl | rfl
    ·exact hend
    ·exact hend
  ·rcases callX_parts h with ⟨h1, _, _, _⟩ | ⟨fn, hfn, hins, hi⟩ | ⟨fn, c, e, tm, vs, hfn, hc, hrun, he, hvs, rfl⟩
   ·exact ho.body f h1
   ·obtain ⟨ρ, L, hρ⟩ := ho.ins f fn hfn hins
    subst hρ
    exact ⟨_, L.f21, rfl⟩
   ·exact ⟨fn, hfn, by simp [hc]⟩

theorem returnsX (hP : ProgOk P) (ho : OraOk P ora) {d : Nat} {f : FuncId} {args : List Value} {H H' : AHeap} {b : Bool} (h : aCallX P ora F d 0 f args H = some (.bool b, H')) {m : Map} {w : World} {cargs : Array Value} (hr : HR w.heap.size m H w) (ha : lrel m args cargs.toList) :
  Calls P f cargs w fun e w' => e = .returned (.bool b) ∧ Go.RowKit.Below w.heap.size w w' :=
 ((callX_sim hP ho d).sim _ _ _ _ _ _ h m w cargs hr ha).mono fun e w' ⟨v', m', he, hv, hst⟩ => by
  obtain rfl := hv.bool_inv
  exact ⟨he, hst.below rfl hr⟩
end

/-! ## Walking -/
/-- from some fuel on. -/
def Evt (p : Nat → Nat → Prop) : Prop := ∃ n, ∀ F d, n ≤ F → n ≤ d → p F d

section
variable {P : Program} {ora : FuncId → Bool} {wm : Nat}

def wpC (P : Program) (ora : FuncId → Bool) (wm : Nat) (c : Code) (tm : List Value) (H : AHeap) (Q : AEx → List Value → AHeap → Prop) : Prop :=
 ∃ ex tm' H', Q ex tm' H' ∧ Evt fun F d => aCode P F (aCallX P ora F d) wm c tm H = some (ex, tm', H')
def wpO (P : Program) (ora : FuncId → Bool) (wm : Nat) (draw : Bool) (ops : Array Oper) (l : List Oper) (tm : List Value) (H : AHeap) (Q : List Value → AHeap → Prop) : Prop :=
 ∃ tm' H', Q tm' H' ∧ Evt fun F d => aOps P (aCallX P ora F d) wm draw ops l tm H = some (tm', H')
def wpF (P : Program) (ora : FuncId → Bool) (wm : Nat) (f : FuncId) (args : List Value) (H : AHeap) (Q : Value → AHeap → Prop) : Prop :=
 ∃ v H', Q v H' ∧ Evt fun F d => aCallX P ora F d wm f args H = some (v, H')

variable {tm : List Value} {H : AHeap} {Q Q' : AEx → List Value → AHeap → Prop}

theorem wpC.mono {c : Code} (h : wpC P ora wm c tm H Q) (k : ∀ ex tm' H', Q ex tm' H' → Q' ex tm' H') : wpC P ora wm c tm H Q' := by
 obtain ⟨ex, tm', H', hq, he⟩ := h
 exact ⟨ex, tm', H', k _ _ _ hq, he⟩
theorem wpF.mono {f : FuncId} {args : List Value} {R R' : Value → AHeap → Prop} (h : wpF P ora wm f args H R) (k : ∀ v H', R v H' → R' v H') : wpF P ora wm f args H R' := by
 obtain ⟨v, H', hq, he⟩ := h
 exact ⟨v, H', k _ _ hq, he⟩
theorem Evt.of {p : Nat → Nat → Prop} (h : ∀ F d, p F d) : Evt p := ⟨0, fun F d _ _ => h F d⟩

theorem wpC.skip (h : Q .normal tm H) : wpC P ora wm .skip tm H Q := ⟨_, _, _, h, Evt.of fun F d => rfl⟩
theorem wpC.label {l : Nat} (h : Q .normal tm H) : wpC P ora wm (.label l) tm H Q := ⟨_, _, _, h, Evt.of fun F d => rfl⟩
theorem wpC.exit {i : Nat} (h : Q (.exit i) tm H) : wpC P ora wm (.exit i) tm H Q := ⟨_, _, _, h, Evt.of fun F d => rfl⟩
theorem wpC.ret (h : Q .ret tm H) : wpC P ora wm .ret tm H Q := ⟨_, _, _, h, Evt.of fun F d => rfl⟩
theorem wpC.region {id : Nat} {ops : Array Oper} {draw : Bool} (h : wpO P ora wm draw ops ops.toList tm H (Q .normal)) : wpC P ora wm (.region id ops draw) tm H Q := by
 obtain ⟨tm', H', hq, n, he⟩ := h
 refine ⟨.normal, tm', H', hq, n, fun F d hF hd => ?_⟩
 simp only [aCode, he F d hF hd]
/-- what goes on behind. -/
def seqQ (P : Program) (ora : FuncId → Bool) (wm : Nat) (b : Code) (Q : AEx → List Value → AHeap → Prop) : AEx → List Value → AHeap → Prop
 | .normal, tm, H => wpC P ora wm b tm H Q
 | .exit i, tm, H => Q (.exit i) tm H
 | .ret, tm, H => Q .ret tm H
theorem wpC.seq {a b : Code} (h : wpC P ora wm a tm H (seqQ P ora wm b Q)) : wpC P ora wm (.seq a b) tm H Q := by
 obtain ⟨ex, tm1, H1, hq, n, he⟩ := h
 cases ex with
 | normal =>
  obtain ⟨ex2, tm2, H2, hq2, n2, he2⟩ := hq
  refine ⟨ex2, tm2, H2, hq2, max n n2, fun F d hF hd => ?_⟩
  simp only [aCode, he F d (by omega) (by omega), he2 F d (by omega) (by omega)]
 | exit i => exact ⟨_, _, _, hq, n, fun F d hF hd => by simp only [aCode, he F d hF hd]⟩
 | ret => exact ⟨_, _, _, hq, n, fun F d hF hd => by simp only [aCode, he F d hF hd]⟩
theorem wpC.cond {c : Operand} {a b : Code} {t : Bool} (hc : ev tm c = some (.bool t)) (ha : t = true → wpC P ora wm a tm H Q) (hb : t = false → wpC P ora wm b tm H Q) : wpC P ora wm (.cond c a b) tm H Q := by
 cases t with
 | true =>
  obtain ⟨ex, tm1, H1, hq, n, he⟩ := ha rfl
  exact ⟨_, _, _, hq, n, fun F d hF hd => by simp only [aCode, hc, if_true, he F d hF hd]⟩
 | false =>
  obtain ⟨ex, tm1, H1, hq, n, he⟩ := hb rfl
  refine ⟨_, _, _, hq, n, fun F d hF hd => ?_⟩
  simp only [aCode, hc]
  rw [if_neg Bool.false_ne_true]
  exact he F d hF hd
def blockQ (id : Nat) (Q : AEx → List Value → AHeap → Prop) : AEx → List Value → AHeap → Prop
 | .exit i, tm, H => if i = id then Q .normal tm H else Q (.exit i) tm H
 | .normal, tm, H => Q .normal tm H
 | .ret, tm, H => Q .ret tm H
theorem wpC.block {id : Nat} {b : Code} (h : wpC P ora wm b tm H (blockQ id Q)) : wpC P ora wm (.block id b) tm H Q := by
 obtain ⟨ex, tm1, H1, hq, n, he⟩ := h
 cases ex with
 | normal => exact ⟨_, _, _, hq, n, fun F d hF hd => by simp only [aCode, he F d hF hd]⟩
 | exit i =>
  by_cases hi : i = id
  ·subst hi
   simp only [blockQ, if_true] at hq
   exact ⟨_, _, _, hq, n, fun F d hF hd => by simp only [aCode, he F d hF hd, if_true]⟩
  ·simp only [blockQ, if_neg hi] at hq
   exact ⟨_, _, _, hq, n, fun F d hF hd => by simp only [aCode, he F d hF hd, if_neg hi]⟩
 | ret => exact ⟨_, _, _, hq, n, fun F d hF hd => by simp only [aCode, he F d hF hd]⟩
/-- a round of a loop: again with less, or out. -/
def loopQ (I : Nat → List Value → AHeap → Prop) (Q : AEx → List Value → AHeap → Prop) (k : Nat) : AEx → List Value → AHeap → Prop
 | .normal, tm, H => ∃ k', k' < k ∧ I k' tm H
 | .exit i, tm, H => Q (.exit i) tm H
 | .ret, tm, H => Q .ret tm H
theorem wpC.loop {b : Code} (I : Nat → List Value → AHeap → Prop) (step : ∀ k tm H, I k tm H → wpC P ora wm b tm H (loopQ I Q k)) :
  ∀ k {tm : List Value} {H : AHeap}, I k tm H → wpC P ora wm (.loop b) tm H Q := by
 have key : ∀ k tm H, I k tm H → ∃ ex tm' H' n, Q ex tm' H' ∧ ∀ F d, n ≤ F → n ≤ d → ∀ r, n ≤ r → iterL (fun tm H => aCode P F (aCallX P ora F d) wm b tm H) r tm H = some (ex, tm', H') := by
  intro k
  induction k using Nat.strongRecOn with
  | _ k ih =>
   intro tm H hi
   obtain ⟨ex, tm1, H1, hq, n, he⟩ := step k tm H hi
   cases ex with
   | normal =>
    obtain ⟨k', hk, hi'⟩ := hq
    obtain ⟨ex2, tm2, H2, n2, hq2, he2⟩ := ih k' hk tm1 H1 hi'
    refine ⟨ex2, tm2, H2, max n n2 + 1, hq2, fun F d hF hd r hr => ?_⟩
    obtain ⟨r, rfl⟩ : ∃ r', r = r' + 1 := ⟨r - 1, by omega⟩
    simp only [iterL, he F d (by omega) (by omega)]
    exact he2 F d (by omega) (by omega) r (by omega)
   | exit i =>
    refine ⟨_, tm1, H1, n + 1, hq, fun F d hF hd r hr => ?_⟩
    obtain ⟨r, rfl⟩ : ∃ r', r = r' + 1 := ⟨r - 1, by omega⟩
    simp only [iterL, he F d (by omega) (by omega)]
   | ret =>
    refine ⟨_, tm1, H1, n + 1, hq, fun F d hF hd r hr => ?_⟩
    obtain ⟨r, rfl⟩ : ∃ r', r = r' + 1 := ⟨r - 1, by omega⟩
    simp only [iterL, he F d (by omega) (by omega)]
 intro k tm H hi
 obtain ⟨ex, tm', H', n, hq, he⟩ := key k tm H hi
 exact ⟨ex, tm', H', hq, n, fun F d hF hd => by simp only [aCode]; exact he F d hF hd F hF⟩

def endQ (P : Program) (rs : List ResultVar) (Q : Value → AHeap → Prop) : AEx → List Value → AHeap → Prop
 | .exit _, _, _ => False
 | .normal, tm, H => ∃ vs, ress P tm H rs = some vs ∧ Q (pack vs) H
 | .ret, tm, H => ∃ vs, ress P tm H rs = some vs ∧ Q (pack vs) H
theorem wpF.enter {f : FuncId} {fn : Func} {c : Code} {args : List Value} {Q : Value → AHeap → Prop} (hf : P.funcs[f]? = some fn) (hb : fn.body = some c) (ho : (ora f && args.isEmpty) = false) (hni : isInsF fn = false)
  (h : wpC P ora wm c (args ++ List.replicate (fn.ntmps - args.length) undef) H (endQ P fn.results.toList Q)) : wpF P ora wm f args H Q := by
 obtain ⟨ex, tm', H', hq, n, he⟩ := h
 cases ex with
 | exit i => exact hq.elim
 | normal =>
  obtain ⟨vs, hv, hq⟩ := hq
  refine ⟨_, _, hq, n + 1, fun F d hF hd => ?_⟩
  obtain ⟨d, rfl⟩ : ∃ d', d = d' + 1 := ⟨d - 1, by omega⟩
  simp only [aCallX, ho, hf, hb, he F d (by omega) (by omega), hv, hni]
  rfl
 | ret =>
  obtain ⟨vs, hv, hq⟩ := hq
  refine ⟨_, _, hq, n + 1, fun F d hF hd => ?_⟩
  obtain ⟨d, rfl⟩ : ∃ d', d = d' + 1 := ⟨d - 1, by omega⟩
  simp only [aCallX, ho, hf, hb, he F d (by omega) (by omega), hv, hni]
  rfl
theorem wpF.ins {f : FuncId} {fn : Func} {args : List Value} {v : Value} {H' : AHeap} {Q : Value → AHeap → Prop} (hf : P.funcs[f]? = some fn) (ho : (ora f && args.isEmpty) = false) (hni : isInsF fn = true) (h : aIns wm H args = some (v, H')) (hq : Q v H') : wpF P ora wm f args H Q := by
 refine ⟨_, _, hq, 1, fun F d hF hd => ?_⟩
 obtain ⟨d, rfl⟩ : ∃ d', d = d' + 1 := ⟨d - 1, by omega⟩
 simp only [aCallX, ho, hf, hni, h]
 rfl
theorem wpF.told {f : FuncId} {Q : Value → AHeap → Prop} (ho : ora f = true) (h : Q (.bool true) H) : wpF P ora wm f [] H Q := by
 refine ⟨_, _, h, 1, fun F d hF hd => ?_⟩
 obtain ⟨d, rfl⟩ : ∃ d', d = d' + 1 := ⟨d - 1, by omega⟩
 simp [aCallX, ho]

variable {draw : Bool} {ops : Array Oper} {rest : List Oper} {o : Oper} {R : List Value → AHeap → Prop}
theorem wpO.nil (h : R tm H) : wpO P ora wm draw ops [] tm H R := ⟨_, _, h, Evt.of fun F d => rfl⟩
theorem wpO.op {v : Value} {H' : AHeap} (hg : o.guard = none) (hc : isCall o.op = false) (h : aOp P (if draw && litBase ops o.op then H.n else wm) tm H o.op = some (v, H'))
  (k : wpO P ora wm draw ops rest (putV tm o.dst v) H' R) : wpO P ora wm draw ops (o :: rest) tm H R := by
 obtain ⟨tm', H2, hq, n, he⟩ := k
 refine ⟨tm', H2, hq, n, fun F d hF hd => ?_⟩
 have hw : Region.wanted o (gotB ops tm) = true := by unfold Region.wanted; rw [hg]
 simp only [aOps, hw, if_true, hc, h]
 simpa using he F d hF hd
theorem wpO.call {f : FuncId} {args : List Value} {S : Value → AHeap → Prop} (hg : o.guard = none) (hc : isCall o.op = true) (ha : aCallee tm o.op = some (f, args))
  (hf : wpF P ora (if draw then H.n else wm) f args H S) (k : ∀ v H', S v H' → wpO P ora wm draw ops rest (putV tm o.dst v) H' R) : wpO P ora wm draw ops (o :: rest) tm H R := by
 obtain ⟨v, H1, hs, n1, he1⟩ := hf
 obtain ⟨tm', H2, hq, n, he⟩ := k v H1 hs
 refine ⟨tm', H2, hq, max n n1, fun F d hF hd => ?_⟩
 have hw : Region.wanted o (gotB ops tm) = true := by unfold Region.wanted; rw [hg]
 simp only [aOps, hw, if_true, hc, ha, he1 F d (by omega) (by omega)]
 exact he F d (by omega) (by omega)
theorem wpO.guarded {j : Nat} {want : Bool} {b : Bool} (hg : o.guard = some (j, want)) (hb : gotB ops tm j = some b) (h1 : b = want → wpO P ora wm draw ops ({ o with guard := none } :: rest) tm H R)
  (h2 : b ≠ want → wpO P ora wm draw ops rest (putV tm o.dst undef) H R) : wpO P ora wm draw ops (o :: rest) tm H R := by
 by_cases hbw : b = want
 ·obtain ⟨tm', H2, hq, n, he⟩ := h1 hbw
  refine ⟨tm', H2, hq, n, fun F d hF hd => ?_⟩
  have := he F d hF hd
  have hw : Region.wanted o (gotB ops tm) = true := by unfold Region.wanted; rw [hg]; simp [hb, hbw]
  have hw2 : Region.wanted { o with guard := none } (gotB ops tm) = true := rfl
  simp only [aOps, hw2, if_true] at this
  simp only [aOps, hw, if_true]
  exact this
 ·obtain ⟨tm', H2, hq, n, he⟩ := h2 hbw
  refine ⟨tm', H2, hq, n, fun F d hF hd => ?_⟩
  have hw : Region.wanted o (gotB ops tm) = false := by
   unfold Region.wanted; rw [hg]; simp [hb, hbw]
  simp only [aOps, hw]
  exact he F d hF hd
end
end Go.Am

namespace Go.Am

theorem wrap_id {x : Int} (h1 : -9223372036854775808 ≤ x) (h2 : x ≤ 9223372036854775807) : IntKind.i64.wrap x = x := by
 have e : IntKind.i64.wrap x = if x % 18446744073709551616 ≥ 9223372036854775808 then x % 18446744073709551616 - 18446744073709551616 else x % 18446744073709551616 := by
  simp [IntKind.wrap, IntKind.bits, IntKind.signed]
 rw [e]
 split <;> omega

section
variable {P : Program} {ora : FuncId → Bool} {wm : Nat} {tm : List Value} {H : AHeap} {draw : Bool} {ops : Array Oper} {rest : List Oper} {R : List Value → AHeap → Prop}
variable {dst : Tmp} {t ty : TypeId} {x y : Operand} {pos : String} {aft : Array Edge}

theorem wpO.load {b off : Nat} {own gr : Bool} {sz : Nat} {cells : List Value} {d : TypeDesc} {v : Value} (ha : ev tm x = some (.pointer (some ⟨b, off, none⟩))) (hg : H.get b = some (.row own gr sz cells))
  (hd : P.underlying t = some d) (hag : isAggD d = false) (hv : cells[off]? = some v) (k : wpO P ora wm draw ops rest (tm.set dst v) H R) :
  wpO P ora wm draw ops (⟨some dst, .load t x, ty, pos, aft, none⟩ :: rest) tm H R := by
 refine wpO.op (v := v) (H' := H) rfl rfl ?_ k
 have : aLoad P H t (.pointer (some ⟨b, off, none⟩)) = some v := by
  unfold aLoad
  simp only [hg, hd, hag]
  simpa using hv
 simp only [aOp, ha, Option.bind_some, this, Option.map_some]

theorem wpO.loadAgg {b off : Nat} {own gr : Bool} {sz : Nat} {cells l : List Value} {d : TypeDesc} {i : TypeInfo} (ha : ev tm x = some (.pointer (some ⟨b, off, none⟩))) (hg : H.get b = some (.row own gr sz cells))
  (hd : P.underlying t = some d) (hag : isAggD d = true) (hi : P.info? t = some i) (hv : cut cells off i.size = some l) (k : wpO P ora wm draw ops rest (tm.set dst (.agg l.toArray)) H R) :
  wpO P ora wm draw ops (⟨some dst, .load t x, ty, pos, aft, none⟩ :: rest) tm H R := by
 refine wpO.op (v := .agg l.toArray) (H' := H) rfl rfl ?_ k
 have : aLoad P H t (.pointer (some ⟨b, off, none⟩)) = some (.agg l.toArray) := by
  unfold aLoad
  simp only [hg, hd, hag, hi, hv]
  rfl
 simp only [aOp, ha, Option.bind_some, this, Option.map_some]

theorem wpO.store {b off : Nat} {gr : Bool} {sz : Nat} {cells l : List Value} {i : TypeInfo} {v : Value} (ha : ev tm x = some (.pointer (some ⟨b, off, none⟩))) (hv : ev tm y = some v) (hg : H.get b = some (.row true gr sz cells))
  (hi : P.info? t = some i) (hw : wm ≤ b) (hs : v.cells.size = i.size) (h1 : v.cells.toList.all oneCell = true) (hl : lay cells off v.cells.toList = some l)
  (k : wpO P ora wm draw ops rest tm (H.set b (.row true gr sz l)) R) :
  wpO P ora wm draw ops (⟨none, .store t x y, ty, pos, aft, none⟩ :: rest) tm H R := by
 refine wpO.op (v := undef) (H' := H.set b (.row true gr sz l)) rfl rfl ?_ k
 have hlit : (if (draw && litBase ops (.store t x y)) = true then H.n else wm) = wm := by
  have : litBase ops (.store t x y) = false := rfl
  rw [this, Bool.and_false, if_neg Bool.false_ne_true]
 have : aStore P wm H t (.pointer (some ⟨b, off, none⟩)) v = some (H.set b (.row true gr sz l)) := by
  unfold aStore
  have hc : (decide (wm ≤ b) && v.cells.size == i.size && v.cells.toList.all oneCell) = true := by
   rw [h1, hs]; simp [hw]
  simp only [hi, hg, hl, hc, if_true, Option.map_some]
 show aOp P (if (draw && litBase ops (.store t x y)) = true then H.n else wm) tm H (.store t x y) = _
 rw [hlit]
 simp only [aOp, ha, hv, this, Option.map_some]

/-- an element of a slice. -/
theorem wpO.indexAddr {b o len cap size : Nat} {kd : IntKind} {i : Int} {elem : TypeId} (hx : ev tm x = some (.slice (some ⟨b, o, none⟩) len cap)) (hy : ev tm y = some (.int kd i)) (hu : P.underlying t = some (.slice elem)) (hs : sizeOf' P elem = some size)
  (h0 : 0 ≤ i) (h1 : i < len) (k : wpO P ora wm draw ops rest (tm.set dst (.pointer (some ⟨b, o + i.toNat * size, none⟩))) H R) :
  wpO P ora wm draw ops (⟨some dst, .indexAddr t x y, ty, pos, aft, none⟩ :: rest) tm H R := by
 refine wpO.op (v := .pointer (some ⟨b, o + i.toNat * size, none⟩)) (H' := H) rfl rfl ?_ k
 simp only [aOp, hx, hy, aIndexAddr, hu, hs, h0, h1, and_self, if_true, Option.map_some]

/-- a block and what it holds. -/
structure Has (H : AHeap) (b : Nat) (o : AObj) : Prop where
 lt : b < H.n
 get : H.get b = some o
theorem Has.mono {H H' : AHeap} {b : Nat} {o : AObj} (h : Has H b o) (k : H.le H') : Has H' b o := ⟨Nat.lt_of_lt_of_le h.lt k.1, (k.2 b h.lt).trans h.get⟩
theorem Has.push (H : AHeap) (o : AObj) : Has (H.push o) H.n o := ⟨by simp, AHeap.get_push_new H o⟩

/-- H' is H but for a block. -/
structure But (H H' : AHeap) (b : Nat) : Prop where
 n : H'.n = H.n
 get : ∀ x, x ≠ b → H'.get x = H.get x
theorem But.has {H H' : AHeap} {b x : Nat} {o : AObj} (k : But H H' b) (hx : x ≠ b) (h : Has H x o) : Has H' x o := ⟨by rw [k.n]; exact h.lt, (k.get x hx).trans h.get⟩
theorem But.le {H0 H H' : AHeap} {b : Nat} (k : But H H' b) (h : H0.le H) (hb : H0.n ≤ b) : H0.le H' := ⟨by rw [k.n]; exact h.1, fun x hx => (k.get x (by omega)).trans (h.2 x hx)⟩

theorem wpO.pure {v : Value} {o : Oper} {tm' : List Value} (hg : o.guard = none) (hc : isCall o.op = false) (h : aOp P (if draw && litBase ops o.op then H.n else wm) tm H o.op = some (v, H)) (ht : putV tm o.dst v = tm')
  (k : wpO P ora wm draw ops rest tm' H R) : wpO P ora wm draw ops (o :: rest) tm H R := wpO.op hg hc h (ht ▸ k)

theorem wpO.box {v : Value} {cs : List Value} (hx : ev tm x = some v) (hv : v.cells.toList = cs) (h1 : cs.all oneCell = true)
  (k : ∀ b H', H.n ≤ b → H.le H' → Has H' b (.row true false cs.length cs) → wpO P ora wm draw ops rest (tm.set dst (.pointer (some ⟨b, 0, none⟩))) H' R) :
  wpO P ora wm draw ops (⟨some dst, .box t x, ty, pos, aft, none⟩ :: rest) tm H R := by
 refine wpO.op (v := .pointer (some ⟨H.n, 0, none⟩)) (H' := H.push (.row true false cs.length cs)) rfl rfl ?_ (k _ _ (Nat.le_refl _) (H.le_push _) (Has.push _ _))
 have hl : v.cells.size = cs.length := by rw [← hv]; simp
 simp only [aOp, hx, Option.bind_some, aBox, hv, h1, if_true, hl]
theorem wpO.alloc {z : Value} {cs : List Value} (hz : zeroOf P t = some z) (hk : constOk z = true) (hv : z.cells.toList = cs) (h1 : cs.all oneCell = true)
  (k : ∀ b H', H.n ≤ b → H.le H' → Has H' b (.row true false cs.length cs) → wpO P ora wm draw ops rest (tm.set dst (.pointer (some ⟨b, 0, none⟩))) H' R) :
  wpO P ora wm draw ops (⟨some dst, .alloc t, ty, pos, aft, none⟩ :: rest) tm H R := by
 refine wpO.op (v := .pointer (some ⟨H.n, 0, none⟩)) (H' := H.push (.row true false cs.length cs)) rfl rfl ?_ (k _ _ (Nat.le_refl _) (H.le_push _) (Has.push _ _))
 have hl : z.cells.size = cs.length := by rw [← hv]; simp
 simp only [aOp, hz, Option.bind_some, hk, if_true, aBox, hv, h1, hl]
theorem size_info {P : Program} {t : TypeId} {n : Nat} (h : sizeOf' P t = some n) : ∃ i, P.info? t = some i ∧ i.size = n := by
 unfold sizeOf' at h
 cases hi : P.info? t with
 | none => rw [hi] at h; simp at h
 | some i => rw [hi] at h; simp at h; exact ⟨i, rfl, h⟩
theorem aLoad_agg {b off n : Nat} {own gr : Bool} {sz : Nat} {cells l : List Value} {d : TypeDesc} (hg : Has H b (.row own gr sz cells)) (hd : P.underlying t = some d) (hag : isAggD d = true) (hs : sizeOf' P t = some n) (hv : cut cells off n = some l) :
  aLoad P H t (.pointer (some ⟨b, off, none⟩)) = some (.agg l.toArray) := by
 obtain ⟨i, hi, rfl⟩ := size_info hs
 unfold aLoad
 simp only [hg.get, hd, hag, hi, hv]
 rfl
theorem wpO.storeH {b off n : Nat} {gr : Bool} {sz : Nat} {cells l vs : List Value} {v : Value} (ha : ev tm x = some (.pointer (some ⟨b, off, none⟩))) (hv : ev tm y = some v) (hvs : v.cells.toList = vs) (hg : Has H b (.row true gr sz cells))
  (hsz : sizeOf' P t = some n) (hw : wm ≤ b) (hs : vs.length = n) (h1 : vs.all oneCell = true) (hl : lay cells off vs = some l)
  (k : ∀ H', But H H' b → Has H' b (.row true gr sz l) → wpO P ora wm draw ops rest tm H' R) :
  wpO P ora wm draw ops (⟨none, .store t x y, ty, pos, aft, none⟩ :: rest) tm H R := by
 obtain ⟨i, hi, rfl⟩ := size_info hsz
 refine wpO.store ha hv hg.get hi hw (by rw [← hs, ← hvs]; simp) (by rw [hvs]; exact h1) (by rw [hvs]; exact hl) (k _ ⟨rfl, fun x hx => H.get_set_ne _ hx⟩ ⟨hg.lt, by simp⟩)
end
end Go.Am

namespace Go.Am

/-! ## Loops as plain functions -/
inductive Ctl (σ β : Type) where
 | next (s : σ)
 | done (b : β)

def joinK {σ β : Type} (c : Ctl σ β) (f : σ → Option β) : Option β :=
 match c with
 | .next s => f s
 | .done b => some b
@[simp] theorem joinK_next {σ β : Type} (s : σ) (f : σ → Option β) : joinK (.next s) f = f s := rfl
@[simp] theorem joinK_done {σ β : Type} (b : β) (f : σ → Option β) : joinK (.done b) f = some b := rfl
theorem leave {σ β : Type} {b c : β} {f : σ → Option β} (h : joinK (.done b) f = some c) : b = c := by simpa using h

def iterN {σ β : Type} (f : σ → Option (Ctl σ β)) : Nat → σ → Option β
 | 0, _ => none
 | n + 1, s =>
  match f s with
  | none => none
  | some (.next s') => iterN f n s'
  | some (.done b) => some b

theorem iterN_mono {σ β : Type} {f : σ → Option (Ctl σ β)} : ∀ {n m : Nat} {s : σ} {b : β}, iterN f n s = some b → n ≤ m → iterN f m s = some b := by
 intro n
 induction n with
 | zero => intro m s b h; simp [iterN] at h
 | succ n ih =>
  intro m s b h hm
  obtain ⟨m, rfl⟩ : ∃ k, m = k + 1 := ⟨m - 1, by omega⟩
  simp only [iterN] at h ⊢
  split at h
  ·simp at h
  ·rename_i s' hs; exact ih h (by omega)
  ·rename_i b' hs; exact h

open Classical in
/-- a loop: what it comes to, if it comes to an end. -/
noncomputable def wloop {σ β : Type} (f : σ → Option (Ctl σ β)) (s : σ) : Option β :=
 if h : ∃ n b, iterN f n s = some b then some h.choose_spec.choose else none

theorem wloop_iff {σ β : Type} {f : σ → Option (Ctl σ β)} {s : σ} {b : β} : wloop f s = some b ↔ ∃ n, iterN f n s = some b := by
 unfold wloop
 constructor
 ·intro h
  split at h
  ·rename_i hh
   obtain rfl := Option.some.inj h
   exact ⟨hh.choose, hh.choose_spec.choose_spec⟩
  ·cases h
 ·rintro ⟨n, hn⟩
  have hh : ∃ n b, iterN f n s = some b := ⟨n, b, hn⟩
  rw [dif_pos hh]
  have h1 := hh.choose_spec.choose_spec
  have h2 := iterN_mono h1 (Nat.le_max_left _ n)
  have h3 := iterN_mono hn (Nat.le_max_right hh.choose n)
  rw [h2] at h3
  exact h3

theorem wloop_eq {σ β : Type} (f : σ → Option (Ctl σ β)) (s : σ) :
  wloop f s = (f s).bind fun c => match c with | .next s' => wloop f s' | .done b => some b := by
 cases hf : f s with
 | none =>
  cases hw : wloop f s with
  | none => rfl
  | some b =>
   obtain ⟨n, hn⟩ := wloop_iff.mp hw
   cases n with
   | zero => simp [iterN] at hn
   | succ n => simp [iterN, hf] at hn
 | some c =>
  cases c with
  | done b =>
   show wloop f s = some b
   exact wloop_iff.mpr ⟨1, by simp [iterN, hf]⟩
  | next s' =>
   show wloop f s = wloop f s'
   cases hw : wloop f s' with
   | some b =>
    obtain ⟨n, hn⟩ := wloop_iff.mp hw
    exact wloop_iff.mpr ⟨n + 1, by simp [iterN, hf, hn]⟩
   | none =>
    cases hw2 : wloop f s with
    | none => rfl
    | some b =>
     obtain ⟨n, hn⟩ := wloop_iff.mp hw2
     cases n with
     | zero => simp [iterN] at hn
     | succ n =>
      simp [iterN, hf] at hn
      rw [wloop_iff.mpr ⟨n, hn⟩] at hw
      exact hw
theorem wloop_next {σ β : Type} {f : σ → Option (Ctl σ β)} {s s' : σ} (h : f s = some (.next s')) : wloop f s = wloop f s' := by rw [wloop_eq, h]; rfl
theorem wloop_done {σ β : Type} {f : σ → Option (Ctl σ β)} {s : σ} {b : β} (h : f s = some (.done b)) : wloop f s = some b := by rw [wloop_eq, h]; rfl

theorem bindS {α β : Type} {a : Option α} {f : α → Option β} {r : β} (h : a.bind f = some r) : ∃ x, a = some x ∧ f x = some r := by
 cases a with
 | none => simp at h
 | some x => exact ⟨x, rfl, h⟩
theorem iteT {α : Type} {c : Bool} {a b : Option α} {r : α} (hc : c = true) (h : (if c = true then a else b) = some r) : a = some r := by rwa [if_pos hc] at h
theorem iteF {α : Type} {c : Bool} {a b : Option α} {r : α} (hc : c = false) (h : (if c = true then a else b) = some r) : b = some r := by rwa [if_neg (by simp [hc])] at h

/-! ## Plain operations -/
/-- an element. -/
def idx {α : Type} (l : List α) (i : Int) : Option α := if 0 ≤ i then l[i.toNat]? else none
/-- an element put. -/
def upd {α : Type} (l : List α) (i : Int) (x : α) : Option (List α) := if 0 ≤ i ∧ i < l.length then some (l.set i.toNat x) else none
/-- a part. -/
def sub {α : Type} (l : List α) (lo hi : Int) : Option (List α) := if 0 ≤ lo ∧ lo ≤ hi ∧ hi ≤ l.length then some ((l.take hi.toNat).drop lo.toNat) else none
/-- put behind; 'by': bytes of an element. -/
def app {α : Type} (by_ : Nat) (l m : List α) : Option (List α) := if m = [] ∨ (l.length + m.length) * by_ ≤ 140737488355328 then some (l ++ m) else none
/-- n zeros. -/
def mk {α : Type} (by_ : Nat) (z : α) (n c : Int) : Option (List α) := if 0 ≤ n ∧ n ≤ c ∧ by_ * c ≤ 140737488355328 ∧ c ≤ 140737488355328 then some (List.replicate n.toNat z) else none
def quoI (k : IntKind) (x y : Int) : Option Int := if y = 0 then none else some (k.wrap (x.tdiv y))
def remI (x y : Int) : Option Int := if y = 0 then none else some (x.tmod y)
/-- a byte of a text. -/
def sidx (s : ByteArray) (i : Int) : Option Int := if 0 ≤ i then (s[i.toNat]?).map (·.toNat) else none
def ssub (s : ByteArray) (lo hi : Int) : Option ByteArray := if 0 ≤ lo ∧ lo ≤ hi ∧ hi ≤ s.size then some (s.extract lo.toNat hi.toNat) else none

/-! ## What memory says -/
abbrev ZM := Nat → Option AObj
def ZM.le (Z Z' : ZM) : Prop := ∀ b o, Z b = some o → Z' b = some o

/-- How a thing lies in cells. -/
structure Rep (α : Type) where
 sz : Nat
 rd : ZM → List Value → α → Prop
 len : ∀ {Z c x}, rd Z c x → c.length = sz
 mono : ∀ {Z Z' : ZM} {c x}, ZM.le Z Z' → rd Z c x → rd Z' c x
 one : ∀ {Z c x}, rd Z c x → c.all oneCell = true

def rowOf {α : Type} (r : Rep α) (Z : ZM) : List Value → List α → Prop
 | cs, [] => cs = []
 | cs, x :: l => ∃ c cs', cs = c ++ cs' ∧ r.rd Z c x ∧ rowOf r Z cs' l

section row
variable {α : Type} {r : Rep α} {Z Z' : ZM}
theorem rowOf.len : ∀ {l : List α} {cs : List Value}, rowOf r Z cs l → cs.length = l.length * r.sz
 | [], cs, h => by simp only [rowOf] at h; simp [h]
 | x :: l, cs, h => by
  obtain ⟨c, cs', rfl, h1, h2⟩ := h
  simp [r.len h1, rowOf.len h2, Nat.add_mul]; omega
theorem rowOf.mono (k : ZM.le Z Z') : ∀ {l : List α} {cs : List Value}, rowOf r Z cs l → rowOf r Z' cs l
 | [], cs, h => h
 | x :: l, cs, h => by
  obtain ⟨c, cs', rfl, h1, h2⟩ := h
  exact ⟨c, cs', rfl, r.mono k h1, rowOf.mono k h2⟩
theorem rowOf.one : ∀ {l : List α} {cs : List Value}, rowOf r Z cs l → cs.all oneCell = true
 | [], cs, h => by simp only [rowOf] at h; simp [h]
 | x :: l, cs, h => by
  obtain ⟨c, cs', rfl, h1, h2⟩ := h
  rw [List.all_append, r.one h1, rowOf.one h2]; rfl
theorem rowOf.app : ∀ {l m : List α} {cs ds : List Value}, rowOf r Z cs l → rowOf r Z ds m → rowOf r Z (cs ++ ds) (l ++ m)
 | [], m, cs, ds, h, k => by simp only [rowOf] at h; subst h; exact k
 | x :: l, m, cs, ds, h, k => by
  obtain ⟨c, cs', rfl, h1, h2⟩ := h
  exact ⟨c, cs' ++ ds, by simp, h1, rowOf.app h2 k⟩
theorem rowOf.get : ∀ {l : List α} {cs : List Value} {i : Nat} {x : α}, rowOf r Z cs l → l[i]? = some x → ∃ c, cut cs (i * r.sz) r.sz = some c ∧ r.rd Z c x
 | [], cs, i, x, h, hi => by simp at hi
 | y :: l, cs, 0, x, h, hi => by
  obtain ⟨c, cs', rfl, h1, h2⟩ := h
  simp at hi; subst hi
  have hl := r.len h1
  refine ⟨c, ?_, h1⟩
  unfold cut
  rw [if_pos (by simp [hl])]
  simp [← hl]
 | y :: l, cs, i + 1, x, h, hi => by
  obtain ⟨c, cs', rfl, h1, h2⟩ := h
  simp at hi
  obtain ⟨d, hd, hx⟩ := rowOf.get h2 hi
  have hl := r.len h1
  refine ⟨d, ?_, hx⟩
  unfold cut at hd ⊢
  split at hd
  ·rename_i hle
   rw [if_pos (by simp [hl, Nat.add_mul]; omega)]
   rw [← hd, ← hl, show (i + 1) * c.length = c.length + i * c.length by rw [Nat.add_mul]; omega, ← List.drop_drop, List.drop_left]
  ·cases hd
theorem rowOf.take : ∀ {l : List α} {cs : List Value} (i : Nat), rowOf r Z cs l → rowOf r Z (cs.take (i * r.sz)) (l.take i)
 | [], cs, i, h => by simp only [rowOf] at h; simp [h, rowOf]
 | y :: l, cs, 0, h => by simp [rowOf]
 | y :: l, cs, i + 1, h => by
  obtain ⟨c, cs', rfl, h1, h2⟩ := h
  have hl := r.len h1
  refine ⟨c, cs'.take (i * r.sz), ?_, h1, rowOf.take i h2⟩
  rw [List.take_append, hl, show (i + 1) * r.sz = r.sz + i * r.sz by rw [Nat.add_mul]; omega]
  rw [List.take_of_length_le (by omega), Nat.add_sub_cancel_left]
theorem rowOf.drop : ∀ {l : List α} {cs : List Value} (i : Nat), rowOf r Z cs l → rowOf r Z (cs.drop (i * r.sz)) (l.drop i)
 | [], cs, i, h => by simp only [rowOf] at h; simp [h, rowOf]
 | y :: l, cs, 0, h => by simpa using h
 | y :: l, cs, i + 1, h => by
  obtain ⟨c, cs', rfl, h1, h2⟩ := h
  have hl := r.len h1
  rw [show (i + 1) * r.sz = r.sz + i * r.sz by rw [Nat.add_mul]; omega, ← List.drop_drop, ← hl, List.drop_left, hl]
  exact rowOf.drop i h2
theorem rowOf.set : ∀ {l : List α} {cs c : List Value} {i : Nat} {x : α}, rowOf r Z cs l → i < l.length → r.rd Z c x → ∃ ds, lay cs (i * r.sz) c = some ds ∧ rowOf r Z ds (l.set i x)
 | [], cs, c, i, x, h, hi, hx => by simp at hi
 | y :: l, cs, c, 0, x, h, hi, hx => by
  obtain ⟨d, cs', rfl, h1, h2⟩ := h
  have hl := r.len h1
  have hl2 := r.len hx
  refine ⟨c ++ cs', ?_, c, cs', rfl, hx, h2⟩
  unfold lay
  rw [if_pos (by simp [hl, hl2])]
  simp [hl2, ← hl]
 | y :: l, cs, c, i + 1, x, h, hi, hx => by
  obtain ⟨d, cs', rfl, h1, h2⟩ := h
  have hl := r.len h1
  have hl2 := r.len hx
  obtain ⟨ds, hd, hr⟩ := rowOf.set h2 (by simpa using hi) hx
  refine ⟨d ++ ds, ?_, d, ds, rfl, h1, hr⟩
  unfold lay at hd ⊢
  split at hd
  ·rename_i hle
   rw [if_pos (by simp [hl, Nat.add_mul]; omega)]
   obtain rfl := Option.some.inj hd
   congr 1
   rw [show (i + 1) * r.sz = d.length + i * r.sz by rw [Nat.add_mul, hl]; omega, List.take_length_add_append, Nat.add_assoc, List.drop_length_add_append]
   simp
  ·cases hd
theorem row_nil : rowOf r Z [] [] := rfl
theorem row_cons {c cs : List Value} {x : α} {l : List α} (h : r.rd Z c x) (k : rowOf r Z cs l) : rowOf r Z (c ++ cs) (x :: l) := ⟨c, cs, rfl, h, k⟩
end row

/-- a slice that is only read. -/
def slOk {α : Type} (r : Rep α) (Z : ZM) (v : Value) (l : List α) : Prop :=
 (v = .slice none 0 0 ∧ l = []) ∨ ∃ b o cap own gr cells cs, v = .slice (some ⟨b, o, none⟩) l.length cap ∧ l.length ≤ cap ∧ Z b = some (.row own gr r.sz cells) ∧ cut cells o (l.length * r.sz) = some cs ∧ rowOf r Z cs l
theorem slOk.mono {α : Type} {r : Rep α} {Z Z' : ZM} {v : Value} {l : List α} (k : ZM.le Z Z') (h : slOk r Z v l) : slOk r Z' v l := by
 rcases h with h | ⟨b, o, cap, own, gr, cells, cs, h1, h2, h3, h4, h5⟩
 ·exact .inl h
 ·exact .inr ⟨b, o, cap, own, gr, cells, cs, h1, h2, k _ _ h3, h4, h5.mono k⟩
theorem slOk.oneCell {α : Type} {r : Rep α} {Z : ZM} {v : Value} {l : List α} (h : slOk r Z v l) : oneCell v = true := by
 rcases h with ⟨rfl, _⟩ | ⟨b, o, cap, own, gr, cells, cs, rfl, _⟩ <;> rfl

def rI (k : IntKind) : Rep Int where
 sz := 1
 rd := fun _ c x => c = [.int k x]
 len := fun h => by rw [h]; rfl
 mono := fun _ h => h
 one := fun h => by rw [h]; rfl
def rB : Rep Bool where
 sz := 1
 rd := fun _ c x => c = [.bool x]
 len := fun h => by rw [h]; rfl
 mono := fun _ h => h
 one := fun h => by rw [h]; rfl
def rS : Rep ByteArray where
 sz := 1
 rd := fun _ c x => c = [.string x]
 len := fun h => by rw [h]; rfl
 mono := fun _ h => h
 one := fun h => by rw [h]; rfl
def rC : Rep (Nat × Nat) where
 sz := 1
 rd := fun _ c x => c = [.complex .f64 x.1 x.2]
 len := fun h => by rw [h]; rfl
 mono := fun _ h => h
 one := fun h => by rw [h]; rfl
def rL {α : Type} (r : Rep α) : Rep (List α) where
 sz := 1
 rd := fun Z c l => ∃ v, c = [v] ∧ slOk r Z v l
 len := fun ⟨v, h, _⟩ => by rw [h]; rfl
 mono := fun k ⟨v, h, g⟩ => ⟨v, h, g.mono k⟩
 one := fun ⟨v, h, g⟩ => by rw [h]; simp [g.oneCell]

structure Val where
 Char : Bool
 Shape : List Int
 Data : List Int
def rVal : Rep Val where
 sz := 3
 rd := fun Z c x => ∃ v w, c = [.bool x.Char, v, w] ∧ slOk (rI .i64) Z v x.Shape ∧ slOk (rI .i64) Z w x.Data
 len := fun ⟨v, w, h, _⟩ => by rw [h]; rfl
 mono := fun k ⟨v, w, h, g1, g2⟩ => ⟨v, w, h, g1.mono k, g2.mono k⟩
 one := fun ⟨v, w, h, g1, g2⟩ => by rw [h]; simp [g1.oneCell, g2.oneCell]; rfl
structure Sym where
 Turn : Int
 Flip : Bool
def rSym : Rep Sym where
 sz := 2
 rd := fun _ c x => c = [.int .i64 x.Turn, .bool x.Flip]
 len := fun h => by rw [h]; rfl
 mono := fun _ h => h
 one := fun h => by rw [h]; rfl
structure Item where
 n : Int
 char : Bool
def rItem : Rep Item where
 sz := 2
 rd := fun _ c x => c = [.int .i64 x.n, .bool x.char]
 len := fun h => by rw [h]; rfl
 mono := fun _ h => h
 one := fun h => by rw [h]; rfl
structure Place where
 All : Bool
 V : Val
def rPlace : Rep Place where
 sz := 4
 rd := fun Z c x => ∃ v w, c = [.bool x.All, .bool x.V.Char, v, w] ∧ slOk (rI .i64) Z v x.V.Shape ∧ slOk (rI .i64) Z w x.V.Data
 len := fun ⟨v, w, h, _⟩ => by rw [h]; rfl
 mono := fun k ⟨v, w, h, g1, g2⟩ => ⟨v, w, h, g1.mono k, g2.mono k⟩
 one := fun ⟨v, w, h, g1, g2⟩ => by rw [h]; simp [g1.oneCell, g2.oneCell]; exact ⟨rfl, rfl⟩

/-- What is known: a slice that is only read; one that may be written; one just written down; a variable; a thing in cells. -/
inductive Ent : Type 1 where
 | fz {α : Type} (r : Rep α) (v : Value) (l : List α)
 | own {α : Type} (r : Rep α) (v : Value) (l : List α)
 | lit {α : Type} (r : Rep α) (v : Value) (l : List α)
 | box (b : Nat) (cells : List Value)
 | fbox (b : Nat) (cells : List Value)
 | raw (b : Nat) (o : AObj)
 | zall (Z0 : Nat → Option AObj)
 | el {α : Type} (r : Rep α) (c : List Value) (x : α)

def blkOf : Value → Option Nat
 | .slice (some a) _ _ => some a.block
 | _ => none
def Ent.blk : Ent → Option Nat
 | .own _ v _ => blkOf v
 | .lit _ v _ => blkOf v
 | .box b _ => some b
 | .raw b _ => some b
 | _ => none

def Ent.ok (H : AHeap) (Z : ZM) : Ent → Prop
 | .fz r v l => slOk r Z v l
 | .own r v l => (v = .slice none 0 0 ∧ l = []) ∨ ∃ b o cap gr cells cs, v = .slice (some ⟨b, o, none⟩) l.length cap ∧ H.get b = some (.row true gr r.sz cells) ∧ o + cap * r.sz ≤ cells.length ∧ l.length ≤ cap ∧ cut cells o (l.length * r.sz) = some cs ∧ rowOf r Z cs l
 | .lit r v l => ∃ b cells, v = .slice (some ⟨b, 0, none⟩) l.length l.length ∧ H.get b = some (.row true false r.sz cells) ∧ rowOf r Z cells l
 | .box b cells => H.get b = some (.row true false cells.length cells) ∧ cells.all oneCell = true
 | .fbox b cells => ∃ sz, Z b = some (.row true false sz cells)
 | .raw b o => H.get b = some o
 | .zall Z0 => ZM.le Z0 Z
 | .el r c x => r.rd Z c x

theorem Ent.ok_of {H H' : AHeap} {Z Z' : ZM} {e : Ent} (hb : ∀ b, e.blk = some b → H'.get b = H.get b) (hz : ZM.le Z Z') (h : e.ok H Z) : e.ok H' Z' := by
 cases e with
 | fz r v l => exact slOk.mono hz h
 | el r c x => exact r.mono hz h
 | fbox b cells => exact h.imp fun sz h => hz _ _ h
 | raw b o => exact (hb b rfl).trans h
 | zall Z0 => exact fun b o hh => hz b o (h b o hh)
 | box b cells => exact ⟨(hb b rfl).trans h.1, h.2⟩
 | lit r v l =>
  obtain ⟨b, cells, rfl, h2, h3⟩ := h
  exact ⟨b, cells, rfl, (hb b rfl).trans h2, h3.mono hz⟩
 | own r v l =>
  rcases h with h | ⟨b, o, cap, gr, cells, cs, rfl, h2, h3, h4, h5, h6⟩
  ·exact .inl h
  ·exact .inr ⟨b, o, cap, gr, cells, cs, rfl, (hb b rfl).trans h2, h3, h4, h5, h6.mono hz⟩

theorem Ent.has {H : AHeap} {Z : ZM} {e : Ent} {b : Nat} (h : e.ok H Z) (hb : e.blk = some b) : ∃ o, H.get b = some o := by
 cases e with
 | fz r v l => cases hb
 | el r c x => cases hb
 | fbox b cells => cases hb
 | zall Z0 => cases hb
 | raw c o =>
  obtain rfl : c = b := by simpa [Ent.blk] using hb
  exact ⟨_, h⟩
 | box c cells =>
  obtain rfl : c = b := by simpa [Ent.blk] using hb
  exact ⟨_, h.1⟩
 | own r v l =>
  rcases h with ⟨rfl, _⟩ | ⟨c, o, cap, gr, cells, cs, rfl, q2, _⟩
  ·cases hb
  ·obtain rfl : c = b := by simpa [Ent.blk, blkOf] using hb
   exact ⟨_, q2⟩
 | lit r v l =>
  obtain ⟨c, cells, rfl, q2, _⟩ := h
  obtain rfl : c = b := by simpa [Ent.blk, blkOf] using hb
  exact ⟨_, q2⟩

structure Kn0 (Z : ZM) (wm : Nat) (H : AHeap) (L Fr : List Ent) : Prop where
 hwm : wm ≤ H.n
 z : ∀ b o, Z b = some o → b < H.n ∧ H.get b = some o
 ok : ∀ e ∈ L ++ Fr, e.ok H Z
 blk : ∀ e ∈ L ++ Fr, ∀ b, e.blk = some b → b < H.n ∧ Z b = none
 low : ∀ e ∈ L, ∀ b, e.blk = some b → wm ≤ b
 dis : (L ++ Fr).Pairwise fun e e' => ∀ b, e.blk = some b → e'.blk ≠ some b
def Kn (wm : Nat) (H : AHeap) (L Fr : List Ent) : Prop := ∃ Z, Kn0 Z wm H L Fr

theorem ZM.le_refl (Z : ZM) : ZM.le Z Z := fun _ _ h => h

section inv
variable {Z : ZM} {wm : Nat} {H H' : AHeap} {L L' Fr : List Ent} {e e' : Ent} {k : Nat}

theorem Kn0.mem (hk : L[k]? = some e) : e ∈ L ++ Fr := List.mem_append_left _ (List.mem_of_getElem? hk)

/-- the other entries don't lie in the block of entry k. -/
theorem dis_ne {L : List Ent} (hd : L.Pairwise fun e e' => ∀ b, e.blk = some b → e'.blk ≠ some b) {i j : Nat} {a c : Ent} (hi : L[i]? = some a) (hj : L[j]? = some c) (hij : i ≠ j) {b : Nat} (hb : a.blk = some b) : c.blk ≠ some b := by
 obtain ⟨h1, rfl⟩ := List.getElem?_eq_some_iff.mp hi
 obtain ⟨h2, rfl⟩ := List.getElem?_eq_some_iff.mp hj
 rcases Nat.lt_or_gt_of_ne hij with h | h
 ·exact List.pairwise_iff_getElem.mp hd i j h1 h2 h b hb
 ·intro hc
  exact List.pairwise_iff_getElem.mp hd j i h2 h1 h b hc hb

theorem Kn0.step (h : Kn0 Z wm H L Fr) (hk : L[k]? = some e) (hn : H.n ≤ H'.n) (hg : ∀ b, b < H.n → e.blk ≠ some b → H'.get b = H.get b) (hok : e'.ok H' Z)
  (hb : ∀ b, e'.blk = some b → b < H'.n ∧ wm ≤ b ∧ (e.blk = some b ∨ H.n ≤ b)) : Kn0 Z wm H' (L.set k e') Fr := by
 have hkl : k < L.length := (List.getElem?_eq_some_iff.mp hk).1
 have hset : L.set k e' ++ Fr = (L ++ Fr).set k e' := by rw [List.set_append_left _ _ hkl]
 have hk' : (L ++ Fr)[k]? = some e := by rw [List.getElem?_append_left hkl]; exact hk
 have hother : ∀ i a, (L ++ Fr)[i]? = some a → i ≠ k → a.ok H' Z ∧ (∀ b, a.blk = some b → b < H'.n ∧ Z b = none) ∧ (∀ b, a.blk = some b → e'.blk ≠ some b) := by
  intro i a hi hik
  have hm := List.mem_of_getElem? hi
  refine ⟨Ent.ok_of (fun b hbb => ?_) (ZM.le_refl Z) (h.ok a hm), fun b hbb => ?_, fun b hbb hc => ?_⟩
  ·exact hg b (h.blk a hm b hbb).1 (dis_ne h.dis hi hk' hik hbb)
  ·have := h.blk a hm b hbb; exact ⟨by omega, this.2⟩
  ·have h1 := h.blk a hm b hbb
   rcases (hb b hc).2.2 with h2 | h2
   ·exact dis_ne h.dis hi hk' hik hbb h2
   ·omega
 have hmem : ∀ a, a ∈ L.set k e' ++ Fr → a = e' ∨ ∃ i, i ≠ k ∧ (L ++ Fr)[i]? = some a := by
  intro a ha
  rw [hset] at ha
  obtain ⟨i, hi⟩ := List.getElem?_of_mem ha
  by_cases hik : k = i
  ·subst hik
   rw [List.getElem?_set_self (by simp; omega)] at hi
   exact .inl (Option.some.inj hi).symm
  ·rw [List.getElem?_set_ne hik] at hi
   exact .inr ⟨i, fun hh => hik hh.symm, hi⟩
 refine ⟨Nat.le_trans h.hwm hn, fun b o hz => ?_, fun a ha => ?_, fun a ha b hbb => ?_, fun a ha b hbb => ?_, ?_⟩
 ·obtain ⟨h1, h2⟩ := h.z b o hz
  refine ⟨by omega, ?_⟩
  rw [hg b h1 ?_]
  ·exact h2
  ·intro hc
   have := (h.blk e (Kn0.mem hk) b hc).2
   rw [this] at hz; cases hz
 ·rcases hmem a ha with rfl | ⟨i, hik, hi⟩
  ·exact hok
  ·exact (hother i a hi hik).1
 ·rcases hmem a ha with rfl | ⟨i, hik, hi⟩
  ·refine ⟨(hb b hbb).1, ?_⟩
   rcases (hb b hbb).2.2 with h2 | h2
   ·exact (h.blk e (Kn0.mem hk) b h2).2
   ·cases hz : Z b with
    | none => rfl
    | some o => have := (h.z b o hz).1; omega
  ·exact (hother i a hi hik).2.1 b hbb
 ·rcases hmem a (List.mem_append_left _ ha) with rfl | ⟨i, hik, hi⟩
  ·exact (hb b hbb).2.1
  ·rcases List.mem_or_eq_of_mem_set ha with h1 | rfl
   ·exact h.low a h1 b hbb
   ·exact (hb b hbb).2.1
 ·rw [hset]
  rw [List.pairwise_iff_getElem]
  intro i j hi hj hij b hbb
  rw [List.getElem_set] at hbb
  rw [List.getElem_set]
  have hi' : i < (L ++ Fr).length := by simpa using hi
  have hj' : j < (L ++ Fr).length := by simpa using hj
  split at hbb
  ·rename_i hki
   subst hki
   rw [if_neg (by omega)]
   intro hc
   exact (hother j _ (List.getElem?_eq_getElem hj') (by omega)).2.2 b hc hbb
  ·rename_i hki
   split
   ·rename_i hkj
    subst hkj
    exact (hother i _ (List.getElem?_eq_getElem hi') (by omega)).2.2 b hbb
   ·exact List.pairwise_iff_getElem.mp h.dis i j hi' hj' hij b hbb

theorem Kn0.add (h : Kn0 Z wm H L Fr) (hn : H.n ≤ H'.n) (hg : ∀ b, b < H.n → H'.get b = H.get b) (hok : e'.ok H' Z) (hb : ∀ b, e'.blk = some b → H.n ≤ b ∧ b < H'.n) : Kn0 Z wm H' (e' :: L) Fr := by
 refine ⟨Nat.le_trans h.hwm hn, fun b o hz => ?_, fun a ha => ?_, fun a ha b hbb => ?_, fun a ha b hbb => ?_, ?_⟩
 ·obtain ⟨h1, h2⟩ := h.z b o hz
  exact ⟨by omega, by rw [hg b h1]; exact h2⟩
 ·rcases List.mem_cons.mp (by simpa using ha : a ∈ e' :: (L ++ Fr)) with rfl | hm
  ·exact hok
  ·exact Ent.ok_of (fun b hbb => hg b (h.blk a hm b hbb).1) (ZM.le_refl Z) (h.ok a hm)
 ·rcases List.mem_cons.mp (by simpa using ha : a ∈ e' :: (L ++ Fr)) with rfl | hm
  ·refine ⟨(hb b hbb).2, ?_⟩
   cases hz : Z b with
   | none => rfl
   | some o => have := (h.z b o hz).1; have := (hb b hbb).1; omega
  ·have := h.blk a hm b hbb; exact ⟨by omega, this.2⟩
 ·rcases List.mem_cons.mp ha with rfl | hm
  ·exact Nat.le_trans h.hwm (hb b hbb).1
  ·exact h.low a hm b hbb
 ·rw [List.cons_append, List.pairwise_cons]
  refine ⟨fun a ha b hbb hc => ?_, h.dis⟩
  have := (h.blk a ha b hc).1
  have := (hb b hbb).1
  omega

theorem Kn0.sub (h : Kn0 Z wm H L Fr) (hs : L'.Sublist L) : Kn0 Z wm H L' Fr := by
 have hs' : (L' ++ Fr).Sublist (L ++ Fr) := hs.append (List.Sublist.refl Fr)
 exact ⟨h.hwm, h.z, fun a ha => h.ok a (hs'.subset ha), fun a ha => h.blk a (hs'.subset ha), fun a ha => h.low a (hs.subset ha), h.dis.sublist hs'⟩

/-- what is only read may be told again. -/
theorem Kn0.addp (h : Kn0 Z wm H L Fr) (hok : e'.ok H Z) (hb : e'.blk = none) : Kn0 Z wm H (e' :: L) Fr :=
 h.add (Nat.le_refl _) (fun _ _ => rfl) hok (fun b hbb => by rw [hb] at hbb; cases hbb)

/-- a block that is only read from now on. -/
theorem Kn0.freezeAt (h : Kn0 Z wm H L Fr) (hk : L[k]? = some e) {b : Nat} (he : e.blk = some b) (he' : e'.blk = none) (hok : e'.ok H (fun x => if x = b then H.get b else Z x)) : Kn0 (fun x => if x = b then H.get b else Z x) wm H (L.set k e') Fr := by
 have h0 := h
 have hs := h.step (e' := .fz rB (.slice none 0 0) []) hk (Nat.le_refl _) (fun _ _ _ => rfl) (.inl ⟨rfl, rfl⟩) (fun b hb => by cases hb)
 have hbz := (h.blk _ (Kn0.mem hk) b he)
 have hle : ZM.le Z (fun x => if x = b then H.get b else Z x) := by
  intro x ob hx
  show (if x = b then H.get b else Z x) = some ob
  split
  ·rename_i hh; subst hh; rw [hbz.2] at hx; cases hx
  ·exact hx
 have hkl : k < L.length := (List.getElem?_eq_some_iff.mp hk).1
 have hk' : (L ++ Fr)[k]? = some e := by rw [List.getElem?_append_left hkl]; exact hk
 have hset : ∀ e' : Ent, L.set k e' ++ Fr = (L ++ Fr).set k e' := fun e' => by rw [List.set_append_left _ _ hkl]
 have hmem : ∀ a, a ∈ L.set k e' ++ Fr → a = e' ∨ ∃ i, i ≠ k ∧ (L ++ Fr)[i]? = some a := by
  intro a ha
  rw [hset] at ha
  obtain ⟨i, hi⟩ := List.getElem?_of_mem ha
  by_cases hik : k = i
  ·subst hik
   rw [List.getElem?_set_self (by simp; omega)] at hi
   exact .inl (Option.some.inj hi).symm
  ·rw [List.getElem?_set_ne hik] at hi
   exact .inr ⟨i, fun hh => hik hh.symm, hi⟩
 have hblk : ∀ i a, (L ++ Fr)[i]? = some a → i ≠ k → ∀ x, a.blk = some x → x ≠ b := by
  intro i a hi hik x hx hxb
  subst hxb
  exact dis_ne h0.dis hk' hi (fun hh => hik hh.symm) he hx
 refine ⟨h.hwm, fun x ob hx => ?_, fun a ha => ?_, fun a ha x hx => ?_, fun a ha x hx => ?_, ?_⟩
 ·by_cases hxb : x = b
  ·subst hxb
   simp only [if_pos] at hx
   exact ⟨hbz.1, hx⟩
  ·simp only [if_neg hxb] at hx
   exact h.z x ob hx
 ·rcases hmem a ha with rfl | ⟨i, hik, hi⟩
  ·exact hok
  ·exact Ent.ok_of (fun _ _ => rfl) hle (h.ok a (List.mem_of_getElem? hi))
 ·rcases hmem a ha with rfl | ⟨i, hik, hi⟩
  ·rw [he'] at hx; cases hx
  ·have := h.blk a (List.mem_of_getElem? hi) x hx
   refine ⟨this.1, ?_⟩
   show (if x = b then H.get b else Z x) = none
   rw [if_neg (hblk i a hi hik x hx)]
   exact this.2
 ·rcases List.mem_or_eq_of_mem_set ha with h1 | rfl
  ·exact h.low a h1 x hx
  ·rw [he'] at hx; cases hx
 ·have := hs.dis
  rw [hset] at this ⊢
  rw [List.pairwise_iff_getElem] at this ⊢
  intro i j hi hj hij x hx
  have := this i j (by simpa using hi) (by simpa using hj) hij x
  rw [List.getElem_set] at hx
  rw [List.getElem_set]
  rw [List.getElem_set, List.getElem_set] at this
  split at hx
  ·rw [he'] at hx; cases hx
  ·rename_i hki
   rw [if_neg hki] at this
   split
   ·intro hc; rw [he'] at hc; cases hc
   ·rename_i hkj
    rw [if_neg hkj] at this
    exact this hx

/-- from now on only read. -/
theorem Kn0.freeze {α : Type} {r : Rep α} {v : Value} {l : List α} (h : Kn0 Z wm H L Fr) (hk : L[k]? = some (.own r v l)) : ∃ Z', Kn0 Z' wm H (L.set k (.fz r v l)) Fr := by
 have hq := h.ok _ (Kn0.mem hk)
 rcases hq with ⟨rfl, rfl⟩ | ⟨b, o, cap, gr, cells, cs, rfl, h2, h3, h4, h5, h6⟩
 ·exact ⟨Z, h.step hk (Nat.le_refl _) (fun _ _ _ => rfl) (.inl ⟨rfl, rfl⟩) (fun b hb => by cases hb)⟩
 ·have hbz := (h.blk _ (Kn0.mem hk) b rfl)
  refine ⟨_, h.freezeAt hk (b := b) rfl rfl (.inr ⟨b, o, cap, true, gr, cells, cs, rfl, h4, ?_, h5, h6.mono ?_⟩)⟩
  ·show (if b = b then H.get b else Z b) = _
   rw [if_pos rfl]; exact h2
  ·intro x ob hx
   show (if x = b then H.get b else Z x) = some ob
   split
   ·rename_i hh; subst hh; rw [hbz.2] at hx; cases hx
   ·exact hx
theorem Kn0.freezeBox {b : Nat} {cells : List Value} (h : Kn0 Z wm H L Fr) (hk : L[k]? = some (.box b cells)) : ∃ Z', Kn0 Z' wm H (L.set k (.fbox b cells)) Fr := by
 refine ⟨_, h.freezeAt hk (b := b) rfl rfl ⟨cells.length, ?_⟩⟩
 show (if b = b then H.get b else Z b) = _
 rw [if_pos rfl]; exact (h.ok _ (Kn0.mem hk)).1
end inv
end Go.Am

namespace Go.Am

def lk : List (Nat × Value) → Nat → Option Value
 | [], _ => none
 | (i, v) :: r, t => bif Nat.beq i t then some v else lk r t

/-- what is known: temporaries, memory. -/
structure S (wm n : Nat) (tm : List Value) (H : AHeap) (A : List (Nat × Value)) (L Fr : List Ent) : Prop where
 len : tm.length = n
 env : ∀ t v, lk A t = some v → tm[t]? = some v
 inv : Kn wm H L Fr

def evA (A : List (Nat × Value)) : Operand → Option Value
 | .tmp t => lk A t
 | .const v => if constOk v then some v else none
 | .func f => some (.func (.func f) #[] #[])
 | .global _ => none
def evLA (A : List (Nat × Value)) : List Operand → Option (List Value)
 | [] => some []
 | x :: xs => match evA A x, evLA A xs with
  | some v, some vs => some (v :: vs)
  | _, _ => none
def evPA (A : List (Nat × Value)) : List (Nat × Operand) → Option (List (Nat × Value))
 | [] => some []
 | x :: xs => match evA A x.2, evPA A xs with
  | some v, some vs => some ((x.1, v) :: vs)
  | _, _ => none

section ev
variable {A : List (Nat × Value)} {tm : List Value} (he : ∀ t v, lk A t = some v → tm[t]? = some v)
include he
theorem ev_of {x : Operand} {v : Value} (h : evA A x = some v) : ev tm x = some v := by
 cases x with
 | tmp t => have := he t v h; simp [ev, List.getD, this]
 | const c => exact h
 | func f => exact h
 | global g => cases h
theorem evL_of : ∀ {xs : List Operand} {vs : List Value}, evLA A xs = some vs → evL tm xs = some vs
 | [], vs, h => h
 | x :: xs, vs, h => by
  simp only [evLA] at h
  split at h
  ·rename_i v ws h1 h2
   simp only [evL, ev_of he h1, evL_of h2]; exact h
  ·cases h
theorem evP_of : ∀ {xs : List (Nat × Operand)} {vs : List (Nat × Value)}, evPA A xs = some vs → evP tm xs = some vs
 | [], vs, h => h
 | x :: xs, vs, h => by
  simp only [evPA] at h
  split at h
  ·rename_i v ws h1 h2
   simp only [evP, ev_of he h1, evP_of h2]; exact h
  ·cases h
end ev

def aConvA (P : Program) (src dst : TypeId) (x : Value) : Option Value :=
 match P.underlying src, P.underlying dst, x with
 | some (.int _), some (.int k), .int _ n => some (.int k (k.wrap n))
 | some (.int _), some (.float k), .int _ n => some (.float k (k.nearest n))
 | some (.int _), some .string, .int _ n => some (.string (Utf8.encode n))
 | some .string, some .string, .string s => some (.string s)
 | _, _, _ => none

/-- operations that don't look into memory. -/
def aOpA (P : Program) (A : List (Nat × Value)) : Op → Option Value
 | .move x | .assign x => evA A x
 | .build t ps => (evPA A ps.toList).bind fun l => aBuild P t l
 | .binOp op t x y _ => match evA A x, evA A y with
  | some a, some b => aBin P op t a b
  | _, _ => none
 | .unOp op _ x => (evA A x).bind fun a => aUn op a
 | .convert s d x => (evA A x).bind (aConvA P s d)
 | .makeFunc fn first cs => if first.isEmpty then (evLA A cs.toList).map fun l => (.func fn #[] l.toArray) else none
 | .fieldAddr t x i => (evA A x).bind fun a => aFieldAddr P t a i
 | .field t x i => (evA A x).bind fun a => aField P t a i
 | .index t x i => match evA A x, evA A i with
  | some a, some b => aIndex P t a b
  | _, _ => none
 | .extract x i => match evA A x with
  | some (.tuple vs) => vs.toList[i]?
  | _ => none
 | .call { callee := .builtin b, args, argTypes } => (evLA A args.toList).bind fun l =>
  match b, argTypes.toList, l with
  | .len, t :: _, x :: _ => aLen P t x
  | .min, _, l => minI l
  | .max, _, l => maxI l
  | .real, _, [.complex k re _] => some (.float k re)
  | .imag, _, [.complex k _ im] => some (.float k im)
  | .complex, _, [.float k a, .float k' b] => if k = k' then some (.complex k a b) else none
  | _, _, _ => none
 | _ => none

theorem aOpA_sound {P : Program} {A : List (Nat × Value)} {tm : List Value} (he : ∀ t v, lk A t = some v → tm[t]? = some v) {op : Op} {v : Value} (h : aOpA P A op = some v) :
  isCall op = false ∧ ∀ wm H, aOp P wm tm H op = some (v, H) := by
 cases op <;> simp only [aOpA] at h <;> try contradiction
 case move x => exact ⟨rfl, fun wm H => by simp [aOp, ev_of he h]⟩
 case assign x => exact ⟨rfl, fun wm H => by simp [aOp, ev_of he h]⟩
 case build t ps =>
  refine ⟨rfl, fun wm H => ?_⟩
  cases hp : evPA A ps.toList with
  | none => simp [hp] at h
  | some l => simp [hp] at h; simp [aOp, evP_of he hp, h]
 case binOp op t x y t2 =>
  refine ⟨rfl, fun wm H => ?_⟩
  split at h
  ·rename_i a b h1 h2; simp [aOp, ev_of he h1, ev_of he h2, h]
  ·cases h
 case unOp op t x =>
  refine ⟨rfl, fun wm H => ?_⟩
  cases hp : evA A x with
  | none => simp [hp] at h
  | some l => simp [hp] at h; simp [aOp, ev_of he hp, h]
 case convert s d x =>
  refine ⟨rfl, fun wm H => ?_⟩
  cases hp : evA A x with
  | none => simp [hp] at h
  | some l =>
   simp [hp] at h
   simp only [aOp, ev_of he hp, Option.bind_some]
   unfold aConvA at h
   unfold aConv
   split at h
   ·rename_i h1 h2; simp only [h1, h2]; obtain rfl := Option.some.inj h; rfl
   ·rename_i h1 h2; simp only [h1, h2]; obtain rfl := Option.some.inj h; rfl
   ·rename_i h1 h2; simp only [h1, h2]; obtain rfl := Option.some.inj h; rfl
   ·rename_i h1 h2; simp only [h1, h2]; obtain rfl := Option.some.inj h; rfl
   ·cases h
 case makeFunc fn first cs =>
  refine ⟨rfl, fun wm H => ?_⟩
  split at h
  ·rename_i hf
   cases hp : evLA A cs.toList with
   | none => simp [hp] at h
   | some l => simp [hp] at h; simp only [aOp, evL_of he hp, hf, if_true, h]; simp [h]
  ·cases h
 case fieldAddr t x i =>
  refine ⟨rfl, fun wm H => ?_⟩
  cases hp : evA A x with
  | none => simp [hp] at h
  | some l => simp [hp] at h; simp [aOp, ev_of he hp, h]
 case field t x i =>
  refine ⟨rfl, fun wm H => ?_⟩
  cases hp : evA A x with
  | none => simp [hp] at h
  | some l => simp [hp] at h; simp [aOp, ev_of he hp, h]
 case index t x i =>
  refine ⟨rfl, fun wm H => ?_⟩
  split at h
  ·rename_i a b h1 h2; simp [aOp, ev_of he h1, ev_of he h2, h]
  ·cases h
 case extract x i =>
  refine ⟨rfl, fun wm H => ?_⟩
  split at h
  ·rename_i vs h1; simp [aOp, ev_of he h1, h]
  ·cases h
 case call c =>
  obtain ⟨cal, args, ts⟩ := c
  cases cal with
  | value f => simp at h
  | invoke r m => simp at h
  | builtin b =>
   refine ⟨rfl, fun wm H => ?_⟩
   cases hp : evLA A args.toList with
   | none => simp [hp] at h
   | some l =>
    simp only [hp, Option.bind_some] at h
    simp only [aOp, evL_of he hp, Option.bind_some]
    unfold aBuiltin
    split at h <;> simp_all

section rules
variable {P : Program} {ora : FuncId → Bool} {wm n : Nat} {tm : List Value} {H : AHeap} {A : List (Nat × Value)} {L Fr : List Ent}
variable {draw : Bool} {ops : Array Oper} {rest : List Oper} {R : List Value → AHeap → Prop}
variable {d : Tmp} {t ty : TypeId} {x y : Operand} {pos : String} {aft : Array Edge} {g : Option (Nat × Bool)}

/-- the operation is wanted. -/
def Wd (A : List (Nat × Value)) (ops : Array Oper) (g : Option (Nat × Bool)) : Prop :=
 g = none ∨ ∃ j w t b, g = some (j, w) ∧ (ops[j]?).bind (·.dst) = some t ∧ lk A t = some (.bool b) ∧ b = w

theorem S.wanted (hS : S wm n tm H A L Fr) (hw : Wd A ops g) {o : Oper} (ho : o.guard = g) : Region.wanted o (gotB ops tm) = true := by
 unfold Region.wanted
 rw [ho]
 rcases hw with rfl | ⟨j, w, t, b, rfl, h1, h2, rfl⟩
 ·rfl
 ·simp only [gotB, h1, Option.bind_some, hS.env t _ h2]
  simp

theorem S.put (hS : S wm n tm H A L Fr) (hd : Nat.blt d n = true) (v : Value) : S wm n (tm.set d v) H ((d, v) :: A) L Fr := by
 refine ⟨by simp [hS.len], fun t u h => ?_, hS.inv⟩
 have hdn : d < tm.length := hS.len ▸ Nat.lt_of_succ_le (Nat.le_of_ble_eq_true hd)
 simp only [lk] at h
 by_cases hdt : d = t
 ·subst hdt
  simp at h
  rw [← h]; simp [hdn]
 ·have : Nat.beq d t = false := by
   cases hb : Nat.beq d t with
   | false => rfl
   | true => exact absurd (Nat.eq_of_beq_eq_true hb) hdt
  rw [this] at h
  rw [List.getElem?_set_ne hdt]
  exact hS.env t u h

theorem S.withK (hS : S wm n tm H A L Fr) {H' : AHeap} {L' Fr' : List Ent} {wm' : Nat} (h : Kn wm' H' L' Fr') : S wm' n tm H' A L' Fr' := ⟨hS.len, hS.env, h⟩

theorem o_run {op : Op} {v : Value} {H' : AHeap} {dst : Option Tmp} (hS : S wm n tm H A L Fr) (hw : Wd A ops g) (hc : isCall op = false)
  (h : aOp P (if draw && litBase ops op then H.n else wm) tm H op = some (v, H')) (k : wpO P ora wm draw ops rest (putV tm dst v) H' R) :
  wpO P ora wm draw ops (⟨dst, op, ty, pos, aft, g⟩ :: rest) tm H R := by
 obtain ⟨tm', H2, hq, n, he⟩ := k
 refine ⟨tm', H2, hq, n, fun F d hF hd => ?_⟩
 have hw := hS.wanted hw (o := ⟨dst, op, ty, pos, aft, g⟩) rfl
 simp only [aOps, hw, if_true, hc, h]
 simpa using he F d hF hd

theorem o_pure {op : Op} {v : Value} (hS : S wm n tm H A L Fr) (hw : Wd A ops g) (hd : Nat.blt d n = true) (h : aOpA P A op = some v)
  (k : ∀ tm, S wm n tm H ((d, v) :: A) L Fr → wpO P ora wm draw ops rest tm H R) :
  wpO P ora wm draw ops (⟨some d, op, ty, pos, aft, g⟩ :: rest) tm H R := by
 obtain ⟨hc, h⟩ := aOpA_sound hS.env h
 exact o_run hS hw hc (h _ _) (k _ (hS.put hd v))

/-- an operation that isn't wanted. -/
theorem o_skip {op : Op} {j : Nat} {w b : Bool} {t : Tmp} (hS : S wm n tm H A L Fr) (hd : Nat.blt d n = true) (h1 : (ops[j]?).bind (·.dst) = some t) (h2 : lk A t = some (.bool b)) (hb : b = !w)
  (k : ∀ tm, S wm n tm H ((d, undef) :: A) L Fr → wpO P ora wm draw ops rest tm H R) :
  wpO P ora wm draw ops (⟨some d, op, ty, pos, aft, some (j, w)⟩ :: rest) tm H R := by
 obtain ⟨tm', H2, hq, n, he⟩ := k _ (hS.put hd undef)
 refine ⟨tm', H2, hq, n, fun F d hF hd => ?_⟩
 have hw : Region.wanted (⟨some d, op, ty, pos, aft, some (j, w)⟩ : Oper) (gotB ops tm) = false := by
  unfold Region.wanted
  simp only [gotB, h1, Option.bind_some, hS.env t _ h2, hb]
  cases w <;> rfl
 have hw' := hw
 simp only [aOps]
 split
 ·rename_i hh
  exfalso
  revert hh
  show ¬ (Region.wanted (⟨some _, op, ty, pos, aft, some (j, w)⟩ : Oper) (gotB ops tm) = true)
  unfold Region.wanted at hw ⊢
  simp only at hw ⊢
  rw [hw]
  simp
 ·exact he F d hF hd

/-- an operation whose guard was never asked. -/
theorem o_skipU {op : Op} {j : Nat} {w : Bool} {t : Tmp} (hS : S wm n tm H A L Fr) (hd : Nat.blt d n = true) (h1 : (ops[j]?).bind (·.dst) = some t) (h2 : lk A t = some undef)
  (k : ∀ tm, S wm n tm H ((d, undef) :: A) L Fr → wpO P ora wm draw ops rest tm H R) :
  wpO P ora wm draw ops (⟨some d, op, ty, pos, aft, some (j, w)⟩ :: rest) tm H R := by
 obtain ⟨tm', H2, hq, n, he⟩ := k _ (hS.put hd undef)
 refine ⟨tm', H2, hq, n, fun F d hF hd => ?_⟩
 simp only [aOps]
 split
 ·rename_i hh
  exfalso
  revert hh
  unfold Region.wanted
  simp only [gotB, h1, Option.bind_some, hS.env t _ h2, undef]
  simp
 ·exact he F d hF hd

theorem o_pickT {c a b : Operand} {v : Value} (hS : S wm n tm H A L Fr) (hw : Wd A ops g) (hd : Nat.blt d n = true) {e : Bool} (hc : evA A c = some (.bool e)) (he : e = true) (h : evA A a = some v)
  (k : ∀ tm, S wm n tm H ((d, v) :: A) L Fr → wpO P ora wm draw ops rest tm H R) :
  wpO P ora wm draw ops (⟨some d, .pick c a b, ty, pos, aft, g⟩ :: rest) tm H R := by
 refine o_run (v := v) (H' := H) hS hw rfl ?_ (k _ (hS.put hd v))
 simp [aOp, ev_of hS.env hc, he, ev_of hS.env h]
theorem o_pickF {c a b : Operand} {v : Value} (hS : S wm n tm H A L Fr) (hw : Wd A ops g) (hd : Nat.blt d n = true) {e : Bool} (hc : evA A c = some (.bool e)) (he : e = false) (h : evA A b = some v)
  (k : ∀ tm, S wm n tm H ((d, v) :: A) L Fr → wpO P ora wm draw ops rest tm H R) :
  wpO P ora wm draw ops (⟨some d, .pick c a b, ty, pos, aft, g⟩ :: rest) tm H R := by
 refine o_run (v := v) (H' := H) hS hw rfl ?_ (k _ (hS.put hd v))
 simp [aOp, ev_of hS.env hc, he, ev_of hS.env h]

theorem o_nil (h : R tm H) : wpO P ora wm draw ops [] tm H R := wpO.nil h

/-- a list of operations in two parts. -/
theorem o_cut {l1 l2 : List Oper} {J : List Value → AHeap → Prop} (h : wpO P ora wm draw ops l1 tm H J) (k : ∀ tm' H', J tm' H' → wpO P ora wm draw ops l2 tm' H' R) : wpO P ora wm draw ops (l1 ++ l2) tm H R := by
 obtain ⟨tm1, H1, hj, n1, he1⟩ := h
 obtain ⟨tm2, H2, hq, n2, he2⟩ := k tm1 H1 hj
 refine ⟨tm2, H2, hq, max n1 n2, fun F d hF hd => ?_⟩
 have key : ∀ (l1 : List Oper) (tm : List Value) (H : AHeap), aOps P (aCallX P ora F d) wm draw ops l1 tm H = some (tm1, H1) → aOps P (aCallX P ora F d) wm draw ops (l1 ++ l2) tm H = some (tm2, H2) := by
  intro l1
  induction l1 with
  | nil =>
   intro tm H h
   simp [aOps] at h
   obtain ⟨rfl, rfl⟩ := h
   exact he2 F d (by omega) (by omega)
  | cons o l ih =>
   intro tm H h
   rw [List.cons_append]
   simp only [aOps] at h ⊢
   split
   ·rename_i hw
    rw [if_pos hw] at h
    split
    ·rename_i hc
     rw [if_pos hc] at h
     split
     ·rename_i hx; simp [hx] at h
     ·rename_i hx
      simp only [hx] at h
      split
      ·rename_i hy; simp [hy] at h
      ·rename_i hy; simp only [hy] at h; exact ih _ _ h
    ·rename_i hc
     rw [if_neg hc] at h
     split
     ·rename_i hx; simp only [hx] at h; cases h
     ·rename_i hx; simp only [hx] at h; exact ih _ _ h
   ·rename_i hw
    rw [if_neg hw] at h
    exact ih _ _ h
 exact key l1 tm H (he1 F d (by omega) (by omega))

/-! ### Variables -/
theorem Kn.mem {k : Nat} {e : Ent} (h : Kn wm H L Fr) (hk : L[k]? = some e) : ∃ Z, e.ok H Z := by
 obtain ⟨Z, h⟩ := h
 exact ⟨Z, h.ok e (Kn0.mem hk)⟩
/-- what holds a slice. -/
def IsSl {α : Type} (e : Ent) (r : Rep α) (v : Value) (l : List α) : Prop := e = .fz r v l ∨ e = .own r v l ∨ e = .lit r v l

def slAt {α : Type} (H : AHeap) (Z : ZM) (r : Rep α) (v : Value) (l : List α) : Prop :=
 (v = .slice none 0 0 ∧ l = []) ∨ ∃ b o cap own gr cells cs, v = .slice (some ⟨b, o, none⟩) l.length cap ∧ l.length ≤ cap ∧ H.get b = some (.row own gr r.sz cells) ∧ cut cells o (l.length * r.sz) = some cs ∧ rowOf r Z cs l
theorem cut_zero {cells : List Value} : ∀ {n : Nat}, n = cells.length → cut cells 0 n = some cells := by
 intro n h; subst h; simp [cut]
theorem Kn0.slAt {α : Type} {Z : ZM} {k : Nat} {e : Ent} {r : Rep α} {v : Value} {l : List α} (h : Kn0 Z wm H L Fr) (hk : L[k]? = some e) (hs : IsSl e r v l) : slAt H Z r v l := by
 have ho := h.ok e (Kn0.mem hk)
 rcases hs with rfl | rfl | rfl
 ·rcases ho with ho | ⟨b, o, cap, own, gr, cells, cs, h1, h2, h3, h4, h5⟩
  ·exact .inl ho
  ·exact .inr ⟨b, o, cap, own, gr, cells, cs, h1, h2, (h.z b _ h3).2, h4, h5⟩
 ·rcases ho with ho | ⟨b, o, cap, gr, cells, cs, h1, h2, h3, h4, h5, h6⟩
  ·exact .inl ho
  ·exact .inr ⟨b, o, cap, true, gr, cells, cs, h1, h4, h2, h5, h6⟩
 ·obtain ⟨b, cells, h1, h2, h3⟩ := ho
  exact .inr ⟨b, 0, l.length, true, false, cells, cells, h1, Nat.le_refl _, h2, cut_zero h3.len.symm, h3⟩

theorem S.one {α : Type} {k : Nat} {e : Ent} {r : Rep α} {v : Value} {l : List α} (hS : S wm n tm H A L Fr) (hk : L[k]? = some e) (hs : IsSl e r v l) : oneCell v = true := by
 obtain ⟨Z, h⟩ := hS.inv
 rcases h.slAt hk hs with ⟨rfl, _⟩ | ⟨b, o, cap, own, gr, cells, cs, rfl, _⟩ <;> rfl
theorem all_nil : ([] : List Value).all oneCell = true := rfl
theorem all_cons {v : Value} {l : List Value} (h : oneCell v = true) (k : l.all oneCell = true) : (v :: l).all oneCell = true := by simp [h, k]

theorem Kn.push {e' : Ent} {o : AObj} (h : Kn wm H L Fr) (hok : ∀ Z, e'.ok (H.push o) Z) (hb : e'.blk = some H.n) : Kn wm (H.push o) (e' :: L) Fr := by
 obtain ⟨Z, h⟩ := h
 refine ⟨Z, h.add (by simp) (fun b hb => H.get_push_ne o (by omega)) (hok Z) (fun b hbb => ?_)⟩
 rw [hb] at hbb
 obtain rfl := Option.some.inj hbb
 exact ⟨Nat.le_refl _, by simp⟩

theorem o_box {v : Value} {cs : List Value} (hS : S wm n tm H A L Fr) (hw : Wd A ops g) (hd : Nat.blt d n = true) (hx : evA A x = some v) (hv : v.cells.toList = cs) (h1 : cs.all oneCell = true)
  (k : ∀ b tm H, S wm n tm H ((d, .pointer (some ⟨b, 0, none⟩)) :: A) (.box b cs :: L) Fr → wpO P ora wm draw ops rest tm H R) :
  wpO P ora wm draw ops (⟨some d, .box t x, ty, pos, aft, g⟩ :: rest) tm H R := by
 have hl : v.cells.size = cs.length := by rw [← hv]; simp
 refine o_run (v := .pointer (some ⟨H.n, 0, none⟩)) (H' := H.push (.row true false cs.length cs)) hS hw rfl ?_ (k H.n _ _ ?_)
 ·simp only [aOp, ev_of hS.env hx, Option.bind_some, aBox, hv, h1, if_true, hl]
 ·exact (hS.put hd _).withK (hS.inv.push (fun Z => ⟨by simp, h1⟩) rfl)
theorem o_alloc {z : Value} {cs : List Value} (hS : S wm n tm H A L Fr) (hw : Wd A ops g) (hd : Nat.blt d n = true) (hz : zeroOf P t = some z ∧ constOk z = true ∧ z.cells.toList = cs) (h1 : cs.all oneCell = true)
  (k : ∀ b tm H, S wm n tm H ((d, .pointer (some ⟨b, 0, none⟩)) :: A) (.box b cs :: L) Fr → wpO P ora wm draw ops rest tm H R) :
  wpO P ora wm draw ops (⟨some d, .alloc t, ty, pos, aft, g⟩ :: rest) tm H R := by
 obtain ⟨hz, hk, hv⟩ := hz
 have hl : z.cells.size = cs.length := by rw [← hv]; simp
 refine o_run (v := .pointer (some ⟨H.n, 0, none⟩)) (H' := H.push (.row true false cs.length cs)) hS hw rfl ?_ (k H.n _ _ ?_)
 ·simp only [aOp, hz, Option.bind_some, hk, if_true, aBox, hv, h1, hl]
 ·exact (hS.put hd _).withK (hS.inv.push (fun Z => ⟨by simp, h1⟩) rfl)

/-- what holds a variable. -/
def IsBox (e : Ent) (b : Nat) (cells : List Value) : Prop := e = .box b cells ∨ e = .fbox b cells
theorem Kn.boxAt {k b : Nat} {e : Ent} {cells : List Value} (h : Kn wm H L Fr) (hk : L[k]? = some e) (he : IsBox e b cells) : ∃ sz, H.get b = some (.row true false sz cells) := by
 obtain ⟨Z, h⟩ := h
 have := h.ok e (Kn0.mem hk)
 rcases he with rfl | rfl
 ·exact ⟨_, this.1⟩
 ·obtain ⟨sz, hz⟩ := this
  exact ⟨sz, (h.z _ _ hz).2⟩
theorem o_ld1 {e : Ent} {b off k : Nat} {cells : List Value} {de : TypeDesc} {v : Value} (hS : S wm n tm H A L Fr) (hw : Wd A ops g) (hd : Nat.blt d n = true) (ha : evA A x = some (.pointer (some ⟨b, off, none⟩))) (hk : L[k]? = some e) (hb : IsBox e b cells)
  (hu : P.underlying t = some de) (hag : isAggD de = false) (hv : cells[off]? = some v)
  (kk : ∀ tm, S wm n tm H ((d, v) :: A) L Fr → wpO P ora wm draw ops rest tm H R) :
  wpO P ora wm draw ops (⟨some d, .load t x, ty, pos, aft, g⟩ :: rest) tm H R := by
 refine o_run (v := v) (H' := H) hS hw rfl ?_ (kk _ (hS.put hd v))
 obtain ⟨sz', hg⟩ := hS.inv.boxAt hk hb
 simp only [aOp, ev_of hS.env ha, Option.bind_some, aLoad, hg, hu, hag]
 simp [hv]
theorem o_ldA {e : Ent} {b off k sz : Nat} {cells l : List Value} {de : TypeDesc} (hS : S wm n tm H A L Fr) (hw : Wd A ops g) (hd : Nat.blt d n = true) (ha : evA A x = some (.pointer (some ⟨b, off, none⟩))) (hk : L[k]? = some e) (hb : IsBox e b cells)
  (hu : P.underlying t = some de) (hag : isAggD de = true) (hs : sizeOf' P t = some sz) (hv : cut cells off sz = some l)
  (kk : ∀ tm, S wm n tm H ((d, .agg l.toArray) :: A) L Fr → wpO P ora wm draw ops rest tm H R) :
  wpO P ora wm draw ops (⟨some d, .load t x, ty, pos, aft, g⟩ :: rest) tm H R := by
 refine o_run (v := .agg l.toArray) (H' := H) hS hw rfl ?_ (kk _ (hS.put hd _))
 obtain ⟨sz', hg⟩ := hS.inv.boxAt hk hb
 obtain ⟨i, hi, rfl⟩ := size_info hs
 simp only [aOp, ev_of hS.env ha, Option.bind_some, aLoad, hg, hu, hag, hi, hv]
 rfl

theorem lit_false {op : Op} (h : litBase ops op = false) : (if (draw && litBase ops op) = true then H.n else wm) = wm := by
 rw [h, Bool.and_false, if_neg Bool.false_ne_true]

theorem o_st {b off k sz : Nat} {cells l vs : List Value} {v : Value} {aft : Array Edge} (hS : S wm n tm H A L Fr) (hw : Wd A ops g) (ha : evA A x = some (.pointer (some ⟨b, off, none⟩))) (hy : evA A y = some v) (hk : L[k]? = some (.box b cells))
  (hs : sizeOf' P t = some sz) (hvs : v.cells.toList = vs) (hl : vs.length = sz) (h1 : vs.all oneCell = true) (hlay : lay cells off vs = some l)
  (kk : ∀ H, S wm n tm H A (L.set k (.box b l)) Fr → wpO P ora wm draw ops rest tm H R) :
  wpO P ora wm draw ops (⟨none, .store t x y, ty, pos, aft, g⟩ :: rest) tm H R := by
 obtain ⟨Z, hi⟩ := hS.inv
 obtain ⟨hg, hone⟩ := hi.ok _ (Kn0.mem hk)
 obtain ⟨i, hi', rfl⟩ := size_info hs
 have hwm := hi.low _ (List.mem_of_getElem? hk) b rfl
 have hb := (hi.blk _ (Kn0.mem hk) b rfl).1
 have hll : l.length = cells.length := by
  obtain ⟨h2, rfl⟩ := lay_some hlay
  simp; omega
 refine o_run (v := undef) (H' := H.set b (.row true false cells.length l)) hS hw rfl ?_ (kk _ (hS.withK ⟨Z, hi.step hk (Nat.le_refl _) (fun x hx hne => H.get_set_ne _ (fun hh => hne (by rw [hh]; rfl))) ?_ (fun x hx => ?_)⟩))
 ·rw [lit_false rfl]
  have hc : (decide (wm ≤ b) && v.cells.size == i.size && v.cells.toList.all oneCell) = true := by
   rw [hvs, h1, ← hl, ← hvs]; simp [hwm]
  rw [hvs] at hc
  simp only [aOp, ev_of hS.env ha, ev_of hS.env hy, aStore, hi', hg, hvs, hlay, Option.map_some, hc, if_true]
 ·refine ⟨by simp [hll], lay_all hlay hone h1⟩
 ·obtain rfl := Option.some.inj hx
  exact ⟨hb, hwm, .inl rfl⟩

/-! ### Slices -/

/-- .. the whole of it. -/
theorem o_stW {b k sz : Nat} {cells vs : List Value} {v : Value} {aft : Array Edge} (hS : S wm n tm H A L Fr) (hw : Wd A ops g) (ha : evA A x = some (.pointer (some ⟨b, 0, none⟩))) (hy : evA A y = some v) (hk : L[k]? = some (.box b cells))
  (hs : sizeOf' P t = some sz) (hvs : v.cells.toList = vs) (hl : vs.length = sz) (h1 : vs.all oneCell = true) (hlay : cells.length = sz)
  (kk : ∀ H, S wm n tm H A (L.set k (.box b vs)) Fr → wpO P ora wm draw ops rest tm H R) :
  wpO P ora wm draw ops (⟨none, .store t x y, ty, pos, aft, g⟩ :: rest) tm H R :=
 o_st hS hw ha hy hk hs hvs hl h1 (by
  unfold lay
  rw [if_pos (by omega)]
  simp
  omega) kk

theorem o_len {α : Type} {k : Nat} {e : Ent} {r : Rep α} {v : Value} {l : List α} {elem : TypeId} {xo : Operand} {ts : Array TypeId} (hS : S wm n tm H A L Fr) (hw : Wd A ops g) (hd : Nat.blt d n = true) (hx : evA A xo = some v) (hk : L[k]? = some e) (hs : IsSl e r v l)
  (hu : P.underlying t = some (.slice elem)) (hts : ts.toList = [t])
  (kk : ∀ tm, S wm n tm H ((d, .int .i64 l.length) :: A) L Fr → wpO P ora wm draw ops rest tm H R) :
  wpO P ora wm draw ops (⟨some d, .call ⟨.builtin .len, #[xo], ts⟩, ty, pos, aft, g⟩ :: rest) tm H R := by
 obtain ⟨Z, hi⟩ := hS.inv
 have hv : ∃ a c, v = .slice a l.length c := by
  rcases hi.slAt hk hs with ⟨rfl, rfl⟩ | ⟨b, o, cap, own, gr, cells, cs, rfl, _⟩
  ·exact ⟨_, _, rfl⟩
  ·exact ⟨_, _, rfl⟩
 obtain ⟨a, c, rfl⟩ := hv
 refine o_run (v := .int .i64 l.length) (H' := H) hS hw rfl ?_ (kk _ (hS.put hd _))
 simp only [aOp, evL, ev_of hS.env hx, Option.bind_some, hts, aBuiltin, aLen, hu, Option.map_some]
 rfl

/-- the address of an element, or of a part of it. -/
def elP (v : Value) (i : Int) (sz off : Nat) : Value :=
 match v with
 | .slice (some ⟨b, o, _⟩) _ _ => .pointer (some ⟨b, o + i.toNat * sz + off, none⟩)
 | _ => undef

theorem idx_lt {α : Type} {l : List α} {i : Int} {y : α} (h : idx l i = some y) : 0 ≤ i ∧ i < l.length ∧ l[i.toNat]? = some y := by
 unfold idx at h
 split at h
 ·rename_i h0
  have := (List.getElem?_eq_some_iff.mp h).1
  exact ⟨h0, by omega, h⟩
 ·cases h

theorem o_ixA {α : Type} {k : Nat} {e : Ent} {r : Rep α} {v : Value} {l : List α} {z : α} {elem : TypeId} {kd : IntKind} {i : Int} (hS : S wm n tm H A L Fr) (hw : Wd A ops g) (hd : Nat.blt d n = true) (hx : evA A x = some v) (hy : evA A y = some (.int kd i)) (hk : L[k]? = some e) (hs : IsSl e r v l)
  (hu : P.underlying t = some (.slice elem)) (hsz : sizeOf' P elem = some r.sz) (hi : idx l i = some z)
  (kk : ∀ tm, S wm n tm H ((d, elP v i r.sz 0) :: A) L Fr → wpO P ora wm draw ops rest tm H R) :
  wpO P ora wm draw ops (⟨some d, .indexAddr t x y, ty, pos, aft, g⟩ :: rest) tm H R := by
 obtain ⟨Z, hI⟩ := hS.inv
 obtain ⟨h0, h1, h2⟩ := idx_lt hi
 refine o_run (v := elP v i r.sz 0) (H' := H) hS hw rfl ?_ (kk _ (hS.put hd _))
 rcases hI.slAt hk hs with ⟨rfl, rfl⟩ | ⟨b, o, cap, own, gr, cells, cs, rfl, _⟩
 ·simp at h2
 ·simp only [aOp, ev_of hS.env hx, ev_of hS.env hy, aIndexAddr, hu, hsz, h0, h1, and_self, if_true, Option.map_some, elP]
  simp

/-- the address of a field of an element. -/
theorem o_fldP {v : Value} {i : Int} {sz off j s : Nat} {fields : Array Field} {f : Field} (hS : S wm n tm H A L Fr) (hw : Wd A ops g) (hd : Nat.blt d n = true) (hx : evA A x = some (elP v i sz off)) (hsl : ∃ b o len cap, v = .slice (some ⟨b, o, none⟩) len cap)
  (hu : P.underlying t = some (.struct fields)) (hf : fields[j]? = some f) (hsz : sizeOf' P f.type = some (s + 1))
  (kk : ∀ tm, S wm n tm H ((d, elP v i sz (off + f.offset)) :: A) L Fr → wpO P ora wm draw ops rest tm H R) :
  wpO P ora wm draw ops (⟨some d, .fieldAddr t x j, ty, pos, aft, g⟩ :: rest) tm H R := by
 obtain ⟨b, o, len, cap, rfl⟩ := hsl
 refine o_run (v := elP (.slice (some ⟨b, o, none⟩) len cap) i sz (off + f.offset)) (H' := H) hS hw rfl ?_ (kk _ (hS.put hd _))
 simp only [aOp, ev_of hS.env hx, Option.bind_some, aFieldAddr, hu, elP, hf, hsz]
 simp [Nat.add_assoc]

theorem cut_cut {cells cs c : List Value} {o m i s off z : Nat} (h : cut cells o m = some cs) (k : cut cs i s = some c) (hz : off + z ≤ s) : cut cells (o + i + off) z = cut c off z := by
 obtain ⟨h1, rfl⟩ := cut_some h
 obtain ⟨h2, rfl⟩ := cut_some k
 simp at h2
 unfold cut
 rw [if_pos (by omega), if_pos (by simp; omega)]
 congr 1
 simp only [List.drop_take, List.take_take, List.drop_drop]
 congr 1
 omega

/-- an element's cells, where it lies. -/
theorem slAt.el {α : Type} {Z : ZM} {r : Rep α} {v : Value} {l : List α} {i : Int} {z : α} (h : slAt H Z r v l) (hi : idx l i = some z) :
  ∃ b o cap own gr cells c, v = .slice (some ⟨b, o, none⟩) l.length cap ∧ H.get b = some (.row own gr r.sz cells) ∧ r.rd Z c z ∧ (∀ off m, off + m ≤ r.sz → cut cells (o + i.toNat * r.sz + off) m = cut c off m) := by
 obtain ⟨h0, h1, h2⟩ := idx_lt hi
 rcases h with ⟨rfl, rfl⟩ | ⟨b, o, cap, own, gr, cells, cs, rfl, _, h4, h5, h6⟩
 ·simp at h2
 ·obtain ⟨c, hc, hr⟩ := h6.get h2
  exact ⟨b, o, cap, own, gr, cells, c, rfl, h4, hr, fun off m hm => cut_cut h5 hc hm⟩

theorem cut_one {l : List Value} {o : Nat} {v : Value} : cut l o 1 = some [v] ↔ l[o]? = some v := by
 constructor
 ·intro h
  obtain ⟨h1, h2⟩ := cut_some h
  have h3 : l[o]? = some l[o] := List.getElem?_eq_getElem (by omega)
  rw [h3]
  have : (List.drop o l).take 1 = [l[o]] := by
   rw [List.drop_eq_getElem_cons (show o < l.length by omega)]; rfl
  rw [this] at h2
  simpa using h2.symm
 ·intro h
  obtain ⟨h1, rfl⟩ := List.getElem?_eq_some_iff.mp h
  unfold cut
  rw [if_pos (by omega), List.drop_eq_getElem_cons h1]
  rfl

/-- a cell of an element: what can be told of it. -/
theorem o_ldE {α : Type} {k off : Nat} {e : Ent} {r : Rep α} {v : Value} {l : List α} {z : α} {de : TypeDesc} {i : Int} (hS : S wm n tm H A L Fr) (hw : Wd A ops g) (hd : Nat.blt d n = true) (hx : evA A x = some (elP v i r.sz off)) (hk : L[k]? = some e) (hs : IsSl e r v l)
  (hi : idx l i = some z) (hu : P.underlying t = some de) (hag : isAggD de = false) (hoff : off < r.sz)
  (kk : ∀ Z c w, Kn0 Z wm H L Fr → r.rd Z c z → c[off]? = some w → S wm n (tm.set d w) H ((d, w) :: A) L Fr → wpO P ora wm draw ops rest (tm.set d w) H R) :
  wpO P ora wm draw ops (⟨some d, .load t x, ty, pos, aft, g⟩ :: rest) tm H R := by
 obtain ⟨Z, hI⟩ := hS.inv
 obtain ⟨b, o, cap, own, gr, cells, c, rfl, h4, hr, hcut⟩ := (hI.slAt hk hs).el hi
 have hlen := r.len hr
 have hc : c[off]? = some c[off] := List.getElem?_eq_getElem (by omega)
 have h7 := hcut off 1 (by omega)
 rw [cut_one.mpr hc] at h7
 have h8 := cut_one.mp h7
 refine o_run (v := c[off]) (H' := H) hS hw rfl ?_ (kk Z c c[off] hI hr hc (hS.put hd _))
 simp only [aOp, ev_of hS.env hx, Option.bind_some, aLoad, elP, h4, hu, hag]
 simp [h8]
theorem o_ldEA {α : Type} {k off sz : Nat} {e : Ent} {r : Rep α} {v : Value} {l : List α} {z : α} {de : TypeDesc} {i : Int} (hS : S wm n tm H A L Fr) (hw : Wd A ops g) (hd : Nat.blt d n = true) (hx : evA A x = some (elP v i r.sz off)) (hk : L[k]? = some e) (hs : IsSl e r v l)
  (hi : idx l i = some z) (hu : P.underlying t = some de) (hag : isAggD de = true) (hsz : sizeOf' P t = some sz) (hoff : off + sz ≤ r.sz)
  (kk : ∀ Z c w, Kn0 Z wm H L Fr → r.rd Z c z → cut c off sz = some w → S wm n (tm.set d (.agg w.toArray)) H ((d, .agg w.toArray) :: A) L Fr → wpO P ora wm draw ops rest (tm.set d (.agg w.toArray)) H R) :
  wpO P ora wm draw ops (⟨some d, .load t x, ty, pos, aft, g⟩ :: rest) tm H R := by
 obtain ⟨Z, hI⟩ := hS.inv
 obtain ⟨b, o, cap, own, gr, cells, c, rfl, h4, hr, hcut⟩ := (hI.slAt hk hs).el hi
 have hlen := r.len hr
 have h7 := hcut off sz hoff
 obtain ⟨w, hw'⟩ : ∃ w, cut c off sz = some w := by unfold cut; rw [if_pos (by omega)]; exact ⟨_, rfl⟩
 rw [hw'] at h7
 obtain ⟨inf, hinf, rfl⟩ := size_info hsz
 refine o_run (v := .agg w.toArray) (H' := H) hS hw rfl ?_ (kk Z c w hI hr hw' (hS.put hd _))
 simp only [aOp, ev_of hS.env hx, Option.bind_some, aLoad, elP, h4, hu, hag, hinf, if_true, h7, Option.map_some]
end rules
end Go.Am
