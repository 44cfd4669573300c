/- T27; PureAt: texts of this claim, laid together. -/
import Derived.Test.YtnomgmlfagiffaaDoorM0At
import Derived.Test.YtnomgmlfagiffaaDoorM1At
import Derived.Test.YtnomgmlfagiffaaDoorM4At
import Derived.Test.YtnomgmlfagiffaaDoorM5At
import Derived.Test.YtnomgmlfagiffaaDoorM6At
import Derived.Test.YtnomgmlfagiffaaDoorM7At
import Derived.Test.YtnomgmlfagiffaaDoorM8At
-- By a program of this session (wip/tools/myprint.py), out of the translation.
namespace Go.Proofs.YtnomgmlfagiffaaDoor.T
open Go.RowKit Go.Proofs.YtnomgmlfagiffaaDoorW.PrintWords Go.Proofs.YtnomgmlfagiffaaDoorW.PrintLast Go.Proofs.YtnomgmlfagiffaaDoorW.PrintMore
attribute [local go_sem] max2_int min2_int max_two min_two max_three min_three max_four min_four   -- for this text's walks alone
set_option linter.unusedVariables false
set_option linter.unusedSimpArgs false

def term_CompareAtoms.f (k : Nat) (a0_0 : Int) (a0_1 : Int) (a0_2 : ByteArray) (a0_3 : ByteArray) (l0_4 : List (S23)) (a1_0 : Int) (a1_1 : Int) (a1_2 : ByteArray) (a1_3 : ByteArray) (l1_4 : List (S23)) : Option (Int) := (strings_Compare.f a0_3 a1_3).bind fun t684 => ((cmp_Compare_int.f (l0_4.length : Int) (l1_4.length : Int)).bind fun t685 => ((term_Compare.f k a0_0 a0_1 a0_2 a1_0 a1_1 a1_2).bind fun t686 => ((cmp_Or_int.f k (([t684, t685, t686] : List Int))).bind fun t690 => (if t690 = 0 then ((slices_CompareFunc_term.f l0_4 l1_4).bind fun t691 => (some t691)) else (some t690)))))
def term_CompareAtoms.T1 : Bool × List (List Nat × List Nat) := (true, [([], []), ([0], [0]), ([], []), ([2], [2]), ([1, 3], [1, 3]), ([], []), ([5], [5]), ([6], [6]), ([], []), ([8], [8]), ([9], [9]), ([7, 10, 4], [7, 10]), ([], []), ([12], [12]), ([], []), ([14], [14]), ([13, 15, 11], [13, 15]), ([4, 11, 16], [4, 11, 16]), ([17, 16], [17]), ([18, 18, 0, 1, 2, 3, 4, 5, 6, 7, 8, 9, 10, 11, 12, 13, 14, 15, 16, 17, 18], [18])])
def term_CompareAtoms.B1 : List Nat := [0, 1, 0, 4, 15, 0, 32, 96, 0, 256, 768, 2047, 0, 4096, 0, 16384, 65535, 131071, 262143, 524287]
theorem term_CompareAtoms.tab1 : rtab .any (opsOf Tryd.f45 1) = term_CompareAtoms.T1 := by kernel_rfl
theorem term_CompareAtoms.bits1 : waitsOk term_CompareAtoms.T1.2 term_CompareAtoms.B1 = true := by kernel_rfl
set_option maxHeartbeats 8000000 in
set_option maxRecDepth 100000 in
theorem term_CompareAtoms.calls (k : Nat) (a0_0 : Int) (a0_1 : Int) (a0_2 : ByteArray) (a0_3 : ByteArray) (A0_4 : Option Addr) (c0_4 : Nat) (l0_4 : List (S23)) (a1_0 : Int) (a1_1 : Int) (a1_2 : ByteArray) (a1_3 : ByteArray) (A1_4 : Option Addr) (c1_4 : Nat) (l1_4 : List (S23)) (r : Int) (w : World) (hr0_4 : Kd.C k23 w A0_4 l0_4.length l0_4) (hc0_4 : l0_4.length ≤ c0_4) (hr1_4 : Kd.C k23 w A1_4 l1_4.length l1_4) (hc1_4 : l1_4.length ≤ c1_4) (h : term_CompareAtoms.f k a0_0 a0_1 a0_2 a0_3 l0_4 a1_0 a1_1 a1_2 a1_3 l1_4 = some r) :
    Calls Tryd.prog 45 #[.agg #[.int .i64 a0_0, .int .i64 a0_1, .string a0_2, .string a0_3, .slice A0_4 l0_4.length c0_4], .agg #[.int .i64 a1_0, .int .i64 a1_1, .string a1_2, .string a1_3, .slice A1_4 l1_4.length c1_4]] w fun e w' => e = .returned (.int .i64 r) ∧ Below w.heap.size w w' := by
  have hu26 := Tryd.underlying26
  have hu23 := Tryd.underlying23
  have HR0_4 := Aside0.mk hr0_4
  have HC0_4 := Aside0.mk hc0_4
  clear hr0_4 hc0_4
  have HR1_4 := Aside0.mk hr1_4
  have HC1_4 := Aside0.mk hc1_4
  clear hr1_4 hc1_4
  have HB := Aside0.mk (Below.refl w.heap.size w)
  have H : ((strings_Compare.f a0_3 a1_3).bind fun t684 => ((cmp_Compare_int.f (l0_4.length : Int) (l1_4.length : Int)).bind fun t685 => ((term_Compare.f k a0_0 a0_1 a0_2 a1_0 a1_1 a1_2).bind fun t686 => ((cmp_Or_int.f k (([t684, t685, t686] : List Int))).bind fun t690 => (if t690 = 0 then ((slices_CompareFunc_term.f l0_4 l1_4).bind fun t691 => (some t691)) else (some t690)))))) = some r := h
  clear h
  replace H := Option.bind_eq_some_iff.mp H
  obtain ⟨t684, A30, H⟩ := H
  replace H : ((cmp_Compare_int.f (l0_4.length : Int) (l1_4.length : Int)).bind fun t685 => ((term_Compare.f k a0_0 a0_1 a0_2 a1_0 a1_1 a1_2).bind fun t686 => ((cmp_Or_int.f k (([t684, t685, t686] : List Int))).bind fun t690 => (if t690 = 0 then ((slices_CompareFunc_term.f l0_4 l1_4).bind fun t691 => (some t691)) else (some t690))))) = some r := H
  have A3 := Aside0.mk A30
  clear A30
  replace H := Option.bind_eq_some_iff.mp H
  obtain ⟨t685, A40, H⟩ := H
  replace H : ((term_Compare.f k a0_0 a0_1 a0_2 a1_0 a1_1 a1_2).bind fun t686 => ((cmp_Or_int.f k (([t684, t685, t686] : List Int))).bind fun t690 => (if t690 = 0 then ((slices_CompareFunc_term.f l0_4 l1_4).bind fun t691 => (some t691)) else (some t690)))) = some r := H
  have A4 := Aside0.mk A40
  clear A40
  replace H := Option.bind_eq_some_iff.mp H
  obtain ⟨t686, A50, H⟩ := H
  replace H : ((cmp_Or_int.f k (([t684, t685, t686] : List Int))).bind fun t690 => (if t690 = 0 then ((slices_CompareFunc_term.f l0_4 l1_4).bind fun t691 => (some t691)) else (some t690))) = some r := H
  have A5 := Aside0.mk A50
  clear A50
  obtain ⟨y687, hy687⟩ : ∃ y_ : List Int, y_ = (([t684, t685, t686] : List Int)) := ⟨_, rfl⟩
  replace H : ((cmp_Or_int.f k y687).bind fun t690 => (if t690 = 0 then ((slices_CompareFunc_term.f l0_4 l1_4).bind fun t691 => (some t691)) else (some t690))) = some r := by first | (rw [hy687]; with_reducible exact H) | (have H2_ := (Option.bind_some _ _).symm.trans H; rw [hy687]; with_reducible exact H2_) | (have H2_ := (Option.bind_some _ _).symm.trans H; with_reducible exact H2_) | with_reducible exact H | (rw [hy687]; exact H) | exact H
  have Ny687 := Aside0.mk hy687
  clear hy687
  replace H := Option.bind_eq_some_iff.mp H
  obtain ⟨t690, A60, H⟩ := H
  replace H : (if t690 = 0 then ((slices_CompareFunc_term.f l0_4 l1_4).bind fun t691 => (some t691)) else (some t690)) = some r := H
  have A6 := Aside0.mk A60
  clear A60
  by_cases c7 : t690 = 0
  · rw [if_pos c7] at H
    have c7b0 : (t690 == 0) = true := beq_iff_eq.mpr c7
    have c7b1 : (t690 != 0) = false := bne_eq_false_iff_eq.mpr c7
    clear c7
    replace H := Option.bind_eq_some_iff.mp H
    obtain ⟨t691, A80, H⟩ := H
    replace H : (some t691) = some r := H
    have A8 := Aside0.mk A80
    clear A80
    obtain rfl := Option.some.inj H
    go_enter Tryd.func45, Tryd.ntmps45
    try go_wp2_with (first | ((with_reducible refine gate_dst (N := 2) rfl ?_); refine box_event ?hg (N := 2) ?hd (cs := #[.int .i64 a0_0, .int .i64 a0_1, .string a0_2, .string a0_3, .slice A0_4 l0_4.length c0_4]) (t := 26) ?hr ?_; (case hd => rfl); (case hg => rfl); (case hr => first | (go_simp; done) | (go_simp; rfl)); intro gb682 hg w9 hbox hb; have n0_ := Aside0.mk (below_step (by repeat (first | (with_reducible first | exact HB.out | apply below_alloc | apply pw_below_drewN | apply below_drew1) | exact HB.out)) hb); have n1_ := Aside0.mk (hbox); have n2_ := Aside0.mk ((by rw [hg]; exact (below_size (by repeat (first | (with_reducible first | exact HB.out | apply below_alloc | apply pw_below_drewN | apply below_drew1) | exact HB.out))) : w.heap.size ≤ gb682)); have n3_ := Aside0.mk ((by rw [hg]; exact (below_size (by repeat (first | (with_reducible first | exact HB.out | apply below_alloc | apply pw_below_drewN | apply below_drew1) | exact HB.out))) : w.heap.size ≤ gb682)); clear HB; have HB := n0_; have BK682 := n1_; have GW682 := n2_; have GE682 := n3_; clear n0_ n1_ n2_ n3_; clear hb hbox hg) | ((with_reducible refine gate_dst (N := 3) rfl ?_); refine box_event ?hg (N := 3) ?hd (cs := #[.int .i64 a1_0, .int .i64 a1_1, .string a1_2, .string a1_3, .slice A1_4 l1_4.length c1_4]) (t := 26) ?hr ?_; (case hd => rfl); (case hg => rfl); (case hr => first | (go_simp; done) | (go_simp; rfl)); intro gb683 hg w10 hbox hb; have n0_ := Aside0.mk (blk_below (g := gb682) (o := .cells #[.int .i64 a0_0, .int .i64 a0_1, .string a0_2, .string a0_3, .slice A0_4 l0_4.length c0_4] 26 (0, 0)) (by (with_reducible repeat (first | refine blk_drewN ?_ _ | refine blk_drew ?_ | refine blk_alloc ?_ _)); exact BK682.out) hb); have n1_ := Aside0.mk (below_step (by repeat (first | (with_reducible first | exact HB.out | apply below_alloc | apply pw_below_drewN | apply below_drew1 | refine below_set ?_ GE682.out) | exact HB.out)) hb); have n2_ := Aside0.mk (hbox); have n3_ := Aside0.mk ((by rw [hg]; exact (below_size (by repeat (first | (with_reducible first | exact HB.out | apply below_alloc | apply pw_below_drewN | apply below_drew1 | refine below_set ?_ GE682.out) | exact HB.out))) : w.heap.size ≤ gb683)); have n4_ := Aside0.mk ((by rw [hg]; exact (below_size (by repeat (first | (with_reducible first | exact HB.out | apply below_alloc | apply pw_below_drewN | apply below_drew1 | refine below_set ?_ GE682.out) | exact HB.out))) : w.heap.size ≤ gb683)); have n5_ := Aside0.mk ((by rw [hg]; exact Nat.ne_of_lt (blk_lt (g := gb682) (o := .cells #[.int .i64 a0_0, .int .i64 a0_1, .string a0_2, .string a0_3, .slice A0_4 l0_4.length c0_4] 26 (0, 0)) (by (with_reducible repeat (first | refine blk_drewN ?_ _ | refine blk_drew ?_ | refine blk_alloc ?_ _)); exact BK682.out)) : gb682 ≠ gb683)); have n6_ := Aside0.mk ((by rw [hg]; exact Nat.ne_of_gt (blk_lt (g := gb682) (o := .cells #[.int .i64 a0_0, .int .i64 a0_1, .string a0_2, .string a0_3, .slice A0_4 l0_4.length c0_4] 26 (0, 0)) (by (with_reducible repeat (first | refine blk_drewN ?_ _ | refine blk_drew ?_ | refine blk_alloc ?_ _)); exact BK682.out)) : gb683 ≠ gb682)); clear BK682; clear HB; have BK682 := n0_; have HB := n1_; have BK683 := n2_; have GW683 := n3_; have GE683 := n4_; have NB682_683 := n5_; have NB683_682 := n6_; clear n0_ n1_ n2_ n3_ n4_ n5_ n6_; clear hb hbox hg))
    have n0_ := Aside0.mk (blk_drew BK682.out)
    have n1_ := Aside0.mk (blk_drew BK683.out)
    have n2_ := Aside0.mk (below_drew1 HB.out)
    clear BK682
    clear BK683
    clear HB
    have BK682 := n0_
    have BK683 := n1_
    have HB := n2_
    clear n0_ n1_ n2_
    refine start_ (n := 20) (S := fun w' => w'.cell? ⟨gb682, 0, none⟩ = some (.int .i64 a0_0) ∧ w'.cell? ⟨gb682, 1, none⟩ = some (.int .i64 a0_1) ∧ w'.cell? ⟨gb682, 2, none⟩ = some (.string a0_2) ∧ w'.cell? ⟨gb682, 3, none⟩ = some (.string a0_3) ∧ w'.cell? ⟨gb682, 4, none⟩ = some (.slice A0_4 l0_4.length c0_4) ∧ w'.cell? ⟨gb683, 0, none⟩ = some (.int .i64 a1_0) ∧ w'.cell? ⟨gb683, 1, none⟩ = some (.int .i64 a1_1) ∧ w'.cell? ⟨gb683, 2, none⟩ = some (.string a1_2) ∧ w'.cell? ⟨gb683, 3, none⟩ = some (.string a1_3) ∧ w'.cell? ⟨gb683, 4, none⟩ = some (.slice A1_4 l1_4.length c1_4)) (ds := []) #[false, false, false, false, false, false, false, false, false, false, false, false, false, false, false, false, false, false, false, false] (by kernel_rfl) rfl rfl ⟨(blk_cell BK682.out 0).trans rfl, (blk_cell BK682.out 1).trans rfl, (blk_cell BK682.out 2).trans rfl, (blk_cell BK682.out 3).trans rfl, (blk_cell BK682.out 4).trans rfl, (blk_cell BK683.out 0).trans rfl, (blk_cell BK683.out 1).trans rfl, (blk_cell BK683.out 2).trans rfl, (blk_cell BK683.out 3).trans rfl, (blk_cell BK683.out 4).trans rfl⟩ (fun hHeld => ?_); refine with_tabW term_CompareAtoms.tab1 term_CompareAtoms.bits1 (fun HT_ HW_ => ?_)
    generalize w10.drew = w11 at BK682 BK683 HB hHeld ⊢
    refine pure_ (i := 0) (N := some 6) (v := ?_) (a' := ?_) #[true, false, false, false, false, false, false, false, false, false, false, false, false, false, false, false, false, false, false, false] rfl rfl (any_of HT_.out (by kernel_rfl)) (fun _ _ _ h => h) (Or.inl ⟨by rfl, ?_⟩) ?_ ?_
    rotate_left
    · intro w'
      go_simp
      with_reducible rfl
    rotate_left
    · simp only [Act.put, List.setIfInBounds_toArray, List.set_cons_zero, List.set_cons_succ, i64_w, i32_w]
      rfl
    refine pure_ (i := 2) (N := some 8) (v := ?_) (a' := ?_) #[true, false, true, false, false, false, false, false, false, false, false, false, false, false, false, false, false, false, false, false] rfl rfl (any_of HT_.out (by kernel_rfl)) (fun _ _ _ h => h) (Or.inl ⟨by rfl, ?_⟩) ?_ ?_
    rotate_left
    · intro w'
      go_simp
      with_reducible rfl
    rotate_left
    · simp only [Act.put, List.setIfInBounds_toArray, List.set_cons_zero, List.set_cons_succ, i64_w, i32_w]
      rfl
    refine pure_ (i := 5) (N := some 11) (v := ?_) (a' := ?_) #[true, false, true, false, false, true, false, false, false, false, false, false, false, false, false, false, false, false, false, false] rfl rfl (any_of HT_.out (by kernel_rfl)) (fun _ _ _ h => h) (Or.inl ⟨by rfl, ?_⟩) ?_ ?_
    rotate_left
    · intro w'
      go_simp
      with_reducible rfl
    rotate_left
    · simp only [Act.put, List.setIfInBounds_toArray, List.set_cons_zero, List.set_cons_succ, i64_w, i32_w]
      rfl
    refine pure_ (i := 8) (N := some 14) (v := ?_) (a' := ?_) #[true, false, true, false, false, true, false, false, true, false, false, false, false, false, false, false, false, false, false, false] rfl rfl (any_of HT_.out (by kernel_rfl)) (fun _ _ _ h => h) (Or.inl ⟨by rfl, ?_⟩) ?_ ?_
    rotate_left
    · intro w'
      go_simp
      with_reducible rfl
    rotate_left
    · simp only [Act.put, List.setIfInBounds_toArray, List.set_cons_zero, List.set_cons_succ, i64_w, i32_w]
      rfl
    refine pure_ (i := 12) (N := some 18) (v := ?_) (a' := ?_) #[true, false, true, false, false, true, false, false, true, false, false, false, true, false, false, false, false, false, false, false] rfl rfl (any_of HT_.out (by kernel_rfl)) (fun _ _ _ h => h) (Or.inl ⟨by rfl, ?_⟩) ?_ ?_
    rotate_left
    · intro w'
      go_simp
      with_reducible rfl
    rotate_left
    · simp only [Act.put, List.setIfInBounds_toArray, List.set_cons_zero, List.set_cons_succ, i64_w, i32_w]
      rfl
    refine pure_ (i := 14) (N := some 20) (v := ?_) (a' := ?_) #[true, false, true, false, false, true, false, false, true, false, false, false, true, false, true, false, false, false, false, false] rfl rfl (any_of HT_.out (by kernel_rfl)) (fun _ _ _ h => h) (Or.inl ⟨by rfl, ?_⟩) ?_ ?_
    rotate_left
    · intro w'
      go_simp
      with_reducible rfl
    rotate_left
    · simp only [Act.put, List.setIfInBounds_toArray, List.set_cons_zero, List.set_cons_succ, i64_w, i32_w]
      rfl
    refine take_ (i := 1) (N := some 7) (v := ?_) (a' := ?_) #[true, true, true, false, false, true, false, false, true, false, false, false, true, false, true, false, false, false, false, false] rfl rfl (take_ofW HT_.out HW_.out (by kernel_rfl)) (fun _ _ _ h => h) (Or.inl ⟨by rfl, ?_⟩) hHeld ?_ ?_
    rotate_left
    · rintro w' ⟨s0, s1, s2, s3, s4, s5, s6, s7, s8, s9⟩
      go_simp
      with_reducible rfl
    rotate_left
    · simp only [Act.put, List.setIfInBounds_toArray, List.set_cons_zero, List.set_cons_succ, i64_w, i32_w]
      rfl
    refine take_ (i := 3) (N := some 9) (v := ?_) (a' := ?_) #[true, true, true, true, false, true, false, false, true, false, false, false, true, false, true, false, false, false, false, false] rfl rfl (take_ofW HT_.out HW_.out (by kernel_rfl)) (fun _ _ _ h => h) (Or.inl ⟨by rfl, ?_⟩) hHeld ?_ ?_
    rotate_left
    · rintro w' ⟨s0, s1, s2, s3, s4, s5, s6, s7, s8, s9⟩
      go_simp
      with_reducible rfl
    rotate_left
    · simp only [Act.put, List.setIfInBounds_toArray, List.set_cons_zero, List.set_cons_succ, i64_w, i32_w]
      rfl
    refine take_ (i := 6) (N := some 12) (v := ?_) (a' := ?_) #[true, true, true, true, false, true, true, false, true, false, false, false, true, false, true, false, false, false, false, false] rfl rfl (take_ofW HT_.out HW_.out (by kernel_rfl)) (fun _ _ _ h => h) (Or.inl ⟨by rfl, ?_⟩) hHeld ?_ ?_
    rotate_left
    · rintro w' ⟨s0, s1, s2, s3, s4, s5, s6, s7, s8, s9⟩
      go_simp
      with_reducible rfl
    rotate_left
    · simp only [Act.put, List.setIfInBounds_toArray, List.set_cons_zero, List.set_cons_succ, i64_w, i32_w]
      rfl
    refine pure_ (i := 7) (N := some 13) (v := ?_) (a' := ?_) #[true, true, true, true, false, true, true, true, true, false, false, false, true, false, true, false, false, false, false, false] rfl rfl (any_of HT_.out (by kernel_rfl)) (fun _ _ _ h => h) (Or.inl ⟨by rfl, ?_⟩) ?_ ?_
    rotate_left
    · intro w'
      go_simp
      with_reducible rfl
    rotate_left
    · simp only [Act.put, List.setIfInBounds_toArray, List.set_cons_zero, List.set_cons_succ, i64_w, i32_w]
      rfl
    refine take_ (i := 9) (N := some 15) (v := ?_) (a' := ?_) #[true, true, true, true, false, true, true, true, true, true, false, false, true, false, true, false, false, false, false, false] rfl rfl (take_ofW HT_.out HW_.out (by kernel_rfl)) (fun _ _ _ h => h) (Or.inl ⟨by rfl, ?_⟩) hHeld ?_ ?_
    rotate_left
    · rintro w' ⟨s0, s1, s2, s3, s4, s5, s6, s7, s8, s9⟩
      go_simp
      with_reducible rfl
    rotate_left
    · simp only [Act.put, List.setIfInBounds_toArray, List.set_cons_zero, List.set_cons_succ, i64_w, i32_w]
      rfl
    refine pure_ (i := 10) (N := some 16) (v := ?_) (a' := ?_) #[true, true, true, true, false, true, true, true, true, true, true, false, true, false, true, false, false, false, false, false] rfl rfl (any_of HT_.out (by kernel_rfl)) (fun _ _ _ h => h) (Or.inl ⟨by rfl, ?_⟩) ?_ ?_
    rotate_left
    · intro w'
      go_simp
      with_reducible rfl
    rotate_left
    · simp only [Act.put, List.setIfInBounds_toArray, List.set_cons_zero, List.set_cons_succ, i64_w, i32_w]
      rfl
    refine take_ (i := 13) (N := some 19) (v := ?_) (a' := ?_) #[true, true, true, true, false, true, true, true, true, true, true, false, true, true, true, false, false, false, false, false] rfl rfl (take_ofW HT_.out HW_.out (by kernel_rfl)) (fun _ _ _ h => h) (Or.inl ⟨by rfl, ?_⟩) hHeld ?_ ?_
    rotate_left
    · rintro w' ⟨s0, s1, s2, s3, s4, s5, s6, s7, s8, s9⟩
      go_simp
      with_reducible rfl
    rotate_left
    · simp only [Act.put, List.setIfInBounds_toArray, List.set_cons_zero, List.set_cons_succ, i64_w, i32_w]
      rfl
    refine take_ (i := 15) (N := some 21) (v := ?_) (a' := ?_) #[true, true, true, true, false, true, true, true, true, true, true, false, true, true, true, true, false, false, false, false] rfl rfl (take_ofW HT_.out HW_.out (by kernel_rfl)) (fun _ _ _ h => h) (Or.inl ⟨by rfl, ?_⟩) hHeld ?_ ?_
    rotate_left
    · rintro w' ⟨s0, s1, s2, s3, s4, s5, s6, s7, s8, s9⟩
      go_simp
      with_reducible rfl
    rotate_left
    · simp only [Act.put, List.setIfInBounds_toArray, List.set_cons_zero, List.set_cons_succ, i64_w, i32_w]
      rfl
    refine one_ (i := 4) (N := some 10) #[true, true, true, true, true, true, true, true, true, true, true, false, true, true, true, true, false, false, false, false] rfl rfl (one_of HT_.out (by kernel_rfl)) (by decide) (fun K hK => ?_)
    refine goes_ Tryd.func75 (by kernel_rfl) rfl #[.string a0_3, .string a1_3] (by rfl) rfl rfl (by (try simp only [List.map_toArray, List.map_cons, List.map_nil]); first | done | rfl | (simp only [List.length_drop, List.length_take]; rfl)) ?_
    with_reducible refine (strings_Compare.calls a0_3 a1_3 t684 _ A3.out).mono ?_
    rintro e w' ⟨rfl, ⟨nd, rfl⟩⟩
    refine ⟨_, rfl, ?_⟩
    refine hK.out _ _ ⟨(blk_cell BK682.out 0).trans rfl, (blk_cell BK682.out 1).trans rfl, (blk_cell BK682.out 2).trans rfl, (blk_cell BK682.out 3).trans rfl, (blk_cell BK682.out 4).trans rfl, (blk_cell BK683.out 0).trans rfl, (blk_cell BK683.out 1).trans rfl, (blk_cell BK683.out 2).trans rfl, (blk_cell BK683.out 3).trans rfl, (blk_cell BK683.out 4).trans rfl⟩ (fun hHeld => ?_)
    clear hK K
    refine norm_ (a' := ?_) ?_ ?_
    rotate_left
    · show Act.put _ (some 10) _ = _
      simp only [Act.put, List.setIfInBounds_toArray, List.set_cons_zero, List.set_cons_succ, i64_w, i32_w]
      rfl
    refine one_ (i := 11) (N := some 17) #[true, true, true, true, true, true, true, true, true, true, true, true, true, true, true, true, false, false, false, false] rfl rfl (one_of HT_.out (by kernel_rfl)) (by decide) (fun K hK => ?_)
    refine goes_ Tryd.func76 (by kernel_rfl) rfl #[.int .i64 (l0_4.length : Int), .int .i64 (l1_4.length : Int)] (by rfl) rfl rfl (by (try simp only [List.map_toArray, List.map_cons, List.map_nil]); first | done | rfl | (simp only [List.length_drop, List.length_take]; rfl)) ?_
    with_reducible refine (cmp_Compare_int.calls (l0_4.length : Int) (l1_4.length : Int) t685 _ A4.out).mono ?_
    rintro e w' ⟨rfl, ⟨nd, rfl⟩⟩
    refine ⟨_, rfl, ?_⟩
    refine hK.out _ _ ⟨(blk_cell BK682.out 0).trans rfl, (blk_cell BK682.out 1).trans rfl, (blk_cell BK682.out 2).trans rfl, (blk_cell BK682.out 3).trans rfl, (blk_cell BK682.out 4).trans rfl, (blk_cell BK683.out 0).trans rfl, (blk_cell BK683.out 1).trans rfl, (blk_cell BK683.out 2).trans rfl, (blk_cell BK683.out 3).trans rfl, (blk_cell BK683.out 4).trans rfl⟩ (fun hHeld => ?_)
    clear hK K
    refine norm_ (a' := ?_) ?_ ?_
    rotate_left
    · show Act.put _ (some 17) _ = _
      simp only [Act.put, List.setIfInBounds_toArray, List.set_cons_zero, List.set_cons_succ, i64_w, i32_w]
      rfl
    refine one_ (i := 16) (N := some 22) #[true, true, true, true, true, true, true, true, true, true, true, true, true, true, true, true, true, false, false, false] rfl rfl (one_of HT_.out (by kernel_rfl)) (by decide) (fun K hK => ?_)
    refine goes_ Tryd.func67 (by kernel_rfl) rfl #[.agg #[.int .i64 a0_0, .int .i64 a0_1, .string a0_2], .agg #[.int .i64 a1_0, .int .i64 a1_1, .string a1_2]] (by rfl) rfl rfl (by (try simp only [List.map_toArray, List.map_cons, List.map_nil]); first | done | rfl | (simp only [List.length_drop, List.length_take]; rfl)) ?_
    with_reducible refine (term_Compare.calls k a0_0 a0_1 a0_2 a1_0 a1_1 a1_2 t686 _ A5.out).mono ?_
    rintro e w12 ⟨rfl, hb⟩
    refine ⟨_, rfl, ?_⟩
    have n0_ := Aside0.mk (blk_below (g := gb682) (o := .cells #[.int .i64 a0_0, .int .i64 a0_1, .string a0_2, .string a0_3, .slice A0_4 l0_4.length c0_4] 26 (0, 0)) (by (with_reducible repeat (first | refine blk_drewN ?_ _ | refine blk_drew ?_ | refine blk_alloc ?_ _)); exact BK682.out) hb)
    have n1_ := Aside0.mk (blk_below (g := gb683) (o := .cells #[.int .i64 a1_0, .int .i64 a1_1, .string a1_2, .string a1_3, .slice A1_4 l1_4.length c1_4] 26 (0, 0)) (by (with_reducible repeat (first | refine blk_drewN ?_ _ | refine blk_drew ?_ | refine blk_alloc ?_ _)); exact BK683.out) hb)
    have n2_ := Aside0.mk (below_step (by repeat (first | (with_reducible first | exact HB.out | apply below_alloc | apply pw_below_drewN | apply below_drew1 | refine below_set ?_ GE682.out | refine below_set ?_ GE683.out) | exact HB.out)) hb)
    clear BK682
    clear BK683
    clear HB
    have BK682 := n0_
    have BK683 := n1_
    have HB := n2_
    clear n0_ n1_ n2_
    (try clear hb)
    (try clear hb2)
    (try clear hk)
    (try clear hi)
    refine hK.out _ _ ⟨(blk_cell BK682.out 0).trans rfl, (blk_cell BK682.out 1).trans rfl, (blk_cell BK682.out 2).trans rfl, (blk_cell BK682.out 3).trans rfl, (blk_cell BK682.out 4).trans rfl, (blk_cell BK683.out 0).trans rfl, (blk_cell BK683.out 1).trans rfl, (blk_cell BK683.out 2).trans rfl, (blk_cell BK683.out 3).trans rfl, (blk_cell BK683.out 4).trans rfl⟩ (fun hHeld => ?_)
    clear hK K
    refine norm_ (a' := ?_) ?_ ?_
    rotate_left
    · show Act.put _ (some 22) _ = _
      simp only [Act.put, List.setIfInBounds_toArray, List.set_cons_zero, List.set_cons_succ, i64_w, i32_w]
      rfl
    refine one_ (i := 17) (N := some 23) #[true, true, true, true, true, true, true, true, true, true, true, true, true, true, true, true, true, true, false, false] rfl rfl (one_of HT_.out (by kernel_rfl)) (by decide) (fun K hK => ?_)
    refine Kd.R_lit_step (Kd.int .i64) _ 3 ?hg (N := 23) ?hd (xs := ([t684, t685, t686] : List Int)) (inner := [.int .i64 t684, .int .i64 t685, .int .i64 t686]) (ok := fun _ => True) (okp := fun _ => True) ?hr ?hp (fun _ hk => hk) trivial (Below.refl _ _) (Nat.le_refl _) (by simp) ?_; (case hd => rfl); (case hg => rfl); (case hr => first | (go_simp; done) | (go_simp; rfl)); (case hp => exact (Reps.one (show Kd.M (Kd.int .i64) _ _ _ t684 [.int .i64 t684] from rfl) (Reps.one (show Kd.M (Kd.int .i64) _ _ _ t685 [.int .i64 t685] from rfl) (Reps.one (show Kd.M (Kd.int .i64) _ _ _ t686 [.int .i64 t686] from rfl) (Reps.none _ _)))))
    intro v688 w13 ho14 hb hg_ hnew_
    clear hg_ hnew_
    (first | rw [← Ny687.out] at ho14 | (simp only [Int.reduceToNat] at ho14; rw [← Ny687.out] at ho14))
    have n0_ := Aside0.mk (Kd.R_lower ho14 (below_size (by repeat (first | (with_reducible first | exact HB.out | apply below_alloc | apply pw_below_drewN | apply below_drew1 | refine below_set ?_ GE682.out | refine below_set ?_ GE683.out) | exact HB.out))))
    have n1_ := Aside0.mk (blk_below (g := gb682) (o := .cells #[.int .i64 a0_0, .int .i64 a0_1, .string a0_2, .string a0_3, .slice A0_4 l0_4.length c0_4] 26 (0, 0)) (by (with_reducible repeat (first | refine blk_drewN ?_ _ | refine blk_drew ?_ | refine blk_alloc ?_ _)); exact BK682.out) hb)
    have n2_ := Aside0.mk (blk_below (g := gb683) (o := .cells #[.int .i64 a1_0, .int .i64 a1_1, .string a1_2, .string a1_3, .slice A1_4 l1_4.length c1_4] 26 (0, 0)) (by (with_reducible repeat (first | refine blk_drewN ?_ _ | refine blk_drew ?_ | refine blk_alloc ?_ _)); exact BK683.out) hb)
    have n3_ := Aside0.mk (below_step (by repeat (first | (with_reducible first | exact HB.out | apply below_alloc | apply pw_below_drewN | apply below_drew1 | refine below_set ?_ GE682.out | refine below_set ?_ GE683.out) | exact HB.out)) hb)
    clear BK682
    clear BK683
    clear HB
    have HO689 := n0_
    have BK682 := n1_
    have BK683 := n2_
    have HB := n3_
    clear n0_ n1_ n2_ n3_
    clear hb ho14
    obtain ⟨Ao15, co15, eo15⟩ := Kd.R_slice HO689.out
    (first | subst eo15 | (injection eo15 with f1_ f2_ f3_; have f4_ := f1_.symm; have f5_ := f3_.symm; clear f1_ f2_ f3_; subst f4_; subst f5_))
    refine hK.out _ _ ⟨(blk_cell BK682.out 0).trans rfl, (blk_cell BK682.out 1).trans rfl, (blk_cell BK682.out 2).trans rfl, (blk_cell BK682.out 3).trans rfl, (blk_cell BK682.out 4).trans rfl, (blk_cell BK683.out 0).trans rfl, (blk_cell BK683.out 1).trans rfl, (blk_cell BK683.out 2).trans rfl, (blk_cell BK683.out 3).trans rfl, (blk_cell BK683.out 4).trans rfl⟩ (fun hHeld => ?_)
    clear hK K
    refine norm_ (a' := ?_) ?_ ?_
    rotate_left
    · show Act.put _ (some 23) _ = _
      simp only [Act.put, List.setIfInBounds_toArray, List.set_cons_zero, List.set_cons_succ, i64_w, i32_w]
      rfl
    refine one_ (i := 18) (N := some 24) #[true, true, true, true, true, true, true, true, true, true, true, true, true, true, true, true, true, true, true, false] rfl rfl (one_of HT_.out (by kernel_rfl)) (by decide) (fun K hK => ?_)
    refine goes_ Tryd.func74 (by kernel_rfl) rfl #[.slice Ao15 y687.length co15] (by rfl) rfl rfl (by (try simp only [List.map_toArray, List.map_cons, List.map_nil]); first | done | rfl | (simp only [List.length_drop, List.length_take]; rfl)) ?_
    with_reducible refine (cmp_Or_int.calls k _ _ y687 t690 _ ?side1 ?side2 A6.out).mono ?_
    (case side1 => repeat (first | exact (Kd.R_reads' HO689.out).2.2 | (with_reducible refine Kd.C_alloc ?_ _) | (with_reducible refine Kd.C_drewN ?_ _) | (with_reducible refine Kd.C_drew ?_)))
    (case side2 => exact (Kd.R_reads' HO689.out).2.1)
    rintro e w' ⟨rfl, ⟨nd, rfl⟩⟩
    refine ⟨_, rfl, ?_⟩
    refine hK.out _ _ ⟨(blk_cell BK682.out 0).trans rfl, (blk_cell BK682.out 1).trans rfl, (blk_cell BK682.out 2).trans rfl, (blk_cell BK682.out 3).trans rfl, (blk_cell BK682.out 4).trans rfl, (blk_cell BK683.out 0).trans rfl, (blk_cell BK683.out 1).trans rfl, (blk_cell BK683.out 2).trans rfl, (blk_cell BK683.out 3).trans rfl, (blk_cell BK683.out 4).trans rfl⟩ (fun hHeld => ?_)
    clear hK K
    refine norm_ (a' := ?_) ?_ ?_
    rotate_left
    · show Act.put _ (some 24) _ = _
      simp only [Act.put, List.setIfInBounds_toArray, List.set_cons_zero, List.set_cons_succ, i64_w, i32_w]
      rfl
    refine pure_ (i := 19) (N := some 5) (v := ?_) (a' := ?_) #[true, true, true, true, true, true, true, true, true, true, true, true, true, true, true, true, true, true, true, true] rfl rfl (any_of HT_.out (by kernel_rfl)) (fun _ _ _ h => h) (Or.inl ⟨by rfl, ?_⟩) ?_ ?_
    rotate_left
    · intro w'
      go_simp
      with_reducible rfl
    rotate_left
    · simp only [Act.put, List.setIfInBounds_toArray, List.set_cons_zero, List.set_cons_succ, i64_w, i32_w]
      rfl
    refine done_ (done_of HT_.out (by kernel_rfl)) ?_
    have hnb16 := NB682_683.out
    have hnc16 := NB683_682.out
    have hcz17_0 : w13.cell? ⟨gb682, 0, none⟩ = some (.int .i64 a0_0) := (blk_cell BK682.out 0).trans rfl
    have hcz17_1 : w13.cell? ⟨gb682, 1, none⟩ = some (.int .i64 a0_1) := (blk_cell BK682.out 1).trans rfl
    have hcz17_2 : w13.cell? ⟨gb682, 2, none⟩ = some (.string a0_2) := (blk_cell BK682.out 2).trans rfl
    have hcz17_3 : w13.cell? ⟨gb682, 3, none⟩ = some (.string a0_3) := (blk_cell BK682.out 3).trans rfl
    have hcz17_4 : w13.cell? ⟨gb682, 4, none⟩ = some (.slice A0_4 l0_4.length c0_4) := (blk_cell BK682.out 4).trans rfl
    have hfz17_0 := blk_frozen BK682.out 0
    have hfz17_1 := blk_frozen BK682.out 1
    have hfz17_2 := blk_frozen BK682.out 2
    have hfz17_3 := blk_frozen BK682.out 3
    have hfz17_4 := blk_frozen BK682.out 4
    have hcz18_0 : w13.cell? ⟨gb683, 0, none⟩ = some (.int .i64 a1_0) := (blk_cell BK683.out 0).trans rfl
    have hcz18_1 : w13.cell? ⟨gb683, 1, none⟩ = some (.int .i64 a1_1) := (blk_cell BK683.out 1).trans rfl
    have hcz18_2 : w13.cell? ⟨gb683, 2, none⟩ = some (.string a1_2) := (blk_cell BK683.out 2).trans rfl
    have hcz18_3 : w13.cell? ⟨gb683, 3, none⟩ = some (.string a1_3) := (blk_cell BK683.out 3).trans rfl
    have hcz18_4 : w13.cell? ⟨gb683, 4, none⟩ = some (.slice A1_4 l1_4.length c1_4) := (blk_cell BK683.out 4).trans rfl
    have hfz18_0 := blk_frozen BK683.out 0
    have hfz18_1 := blk_frozen BK683.out 1
    have hfz18_2 := blk_frozen BK683.out 2
    have hfz18_3 := blk_frozen BK683.out 3
    have hfz18_4 := blk_frozen BK683.out 4
    try go_wp2_with (first | ((with_reducible refine gate_callee (f := 77) rfl ?_); refine goesL_ (some 32) rfl rfl Tryd.func77 (by kernel_rfl) rfl #[.slice A0_4 l0_4.length c0_4, .slice A1_4 l1_4.length c1_4, .func (.func 67) #[] #[]] rfl (by (try simp only [List.map_toArray, List.map_cons, List.map_nil]); first | done | rfl | (simp only [List.length_drop, List.length_take]; rfl)) ?_; (with_reducible refine (slices_CompareFunc_term.calls _ _ l0_4 _ _ l1_4 t691 _ ?side1 ?side2 ?side3 ?side4 A8.out).mono ?_); (case side1 => repeat (first | exact (Kd.C_below HR0_4.out (by repeat (first | (with_reducible first | exact HB.out | apply below_alloc | apply pw_below_drewN | apply below_drew1 | refine below_set ?_ GE682.out | refine below_set ?_ GE683.out) | exact HB.out))) | (with_reducible refine Kd.C_alloc ?_ _) | (with_reducible refine Kd.C_drewN ?_ _) | (with_reducible refine Kd.C_drew ?_))); (case side2 => exact HC0_4.out); (case side3 => repeat (first | exact (Kd.C_below HR1_4.out (by repeat (first | (with_reducible first | exact HB.out | apply below_alloc | apply pw_below_drewN | apply below_drew1 | refine below_set ?_ GE682.out | refine below_set ?_ GE683.out) | exact HB.out))) | (with_reducible refine Kd.C_alloc ?_ _) | (with_reducible refine Kd.C_drewN ?_ _) | (with_reducible refine Kd.C_drew ?_))); (case side4 => exact HC1_4.out); rintro e w19 ⟨rfl, hb⟩; refine ⟨_, rfl, ?_⟩; have n0_ := Aside0.mk (Kd.R_below (by (with_reducible repeat (first | apply Kd.R_alloc | apply Kd.R_drewN | apply Kd.R_drew)); exact HO689.out) hb); have n1_ := Aside0.mk (blk_below (g := gb682) (o := .cells #[.int .i64 a0_0, .int .i64 a0_1, .string a0_2, .string a0_3, .slice A0_4 l0_4.length c0_4] 26 (0, 0)) (by (with_reducible repeat (first | refine blk_drewN ?_ _ | refine blk_drew ?_ | refine blk_alloc ?_ _)); exact BK682.out) hb); have n2_ := Aside0.mk (blk_below (g := gb683) (o := .cells #[.int .i64 a1_0, .int .i64 a1_1, .string a1_2, .string a1_3, .slice A1_4 l1_4.length c1_4] 26 (0, 0)) (by (with_reducible repeat (first | refine blk_drewN ?_ _ | refine blk_drew ?_ | refine blk_alloc ?_ _)); exact BK683.out) hb); have n3_ := Aside0.mk (below_step (by repeat (first | (with_reducible first | exact HB.out | apply below_alloc | apply pw_below_drewN | apply below_drew1 | refine below_set ?_ GE682.out | refine below_set ?_ GE683.out) | exact HB.out)) hb); clear HO689; clear BK682; clear BK683; clear HB; have HO689 := n0_; have BK682 := n1_; have BK683 := n2_; have HB := n3_; clear n0_ n1_ n2_ n3_; (try clear hb); (try clear hb2); (try clear hk); (try clear hi)))
    go_ret
    exact ⟨by first | rfl | (simp [errW_none, errW_some] <;> rfl) | (simp [errW_none, errW_some, bne, show ∀ l_ : List UInt8, (l_ == []) = l_.isEmpty from fun l_ => by cases l_ <;> rfl]; done) | (simp [*, errW_none, errW_some] <;> rfl), by repeat (first | (with_reducible first | exact HB.out | apply below_alloc | apply pw_below_drewN | apply below_drew1 | refine below_set ?_ GE682.out | refine below_set ?_ GE683.out) | exact HB.out)⟩
  · rw [if_neg c7] at H
    have c7b0 : (t690 == 0) = false := beq_eq_false_iff_ne.mpr c7
    have c7b1 : (t690 != 0) = true := bne_iff_ne.mpr c7
    obtain rfl := Option.some.inj H
    go_enter Tryd.func45, Tryd.ntmps45
    try go_wp2_with (first | ((with_reducible refine gate_dst (N := 2) rfl ?_); refine box_event ?hg (N := 2) ?hd (cs := #[.int .i64 a0_0, .int .i64 a0_1, .string a0_2, .string a0_3, .slice A0_4 l0_4.length c0_4]) (t := 26) ?hr ?_; (case hd => rfl); (case hg => rfl); (case hr => first | (go_simp; done) | (go_simp; rfl)); intro gb682 hg w20 hbox hb; have n0_ := Aside0.mk (below_step (by repeat (first | (with_reducible first | exact HB.out | apply below_alloc | apply pw_below_drewN | apply below_drew1) | exact HB.out)) hb); have n1_ := Aside0.mk (hbox); have n2_ := Aside0.mk ((by rw [hg]; exact (below_size (by repeat (first | (with_reducible first | exact HB.out | apply below_alloc | apply pw_below_drewN | apply below_drew1) | exact HB.out))) : w.heap.size ≤ gb682)); have n3_ := Aside0.mk ((by rw [hg]; exact (below_size (by repeat (first | (with_reducible first | exact HB.out | apply below_alloc | apply pw_below_drewN | apply below_drew1) | exact HB.out))) : w.heap.size ≤ gb682)); clear HB; have HB := n0_; have BK682 := n1_; have GW682 := n2_; have GE682 := n3_; clear n0_ n1_ n2_ n3_; clear hb hbox hg) | ((with_reducible refine gate_dst (N := 3) rfl ?_); refine box_event ?hg (N := 3) ?hd (cs := #[.int .i64 a1_0, .int .i64 a1_1, .string a1_2, .string a1_3, .slice A1_4 l1_4.length c1_4]) (t := 26) ?hr ?_; (case hd => rfl); (case hg => rfl); (case hr => first | (go_simp; done) | (go_simp; rfl)); intro gb683 hg w21 hbox hb; have n0_ := Aside0.mk (blk_below (g := gb682) (o := .cells #[.int .i64 a0_0, .int .i64 a0_1, .string a0_2, .string a0_3, .slice A0_4 l0_4.length c0_4] 26 (0, 0)) (by (with_reducible repeat (first | refine blk_drewN ?_ _ | refine blk_drew ?_ | refine blk_alloc ?_ _)); exact BK682.out) hb); have n1_ := Aside0.mk (below_step (by repeat (first | (with_reducible first | exact HB.out | apply below_alloc | apply pw_below_drewN | apply below_drew1 | refine below_set ?_ GE682.out) | exact HB.out)) hb); have n2_ := Aside0.mk (hbox); have n3_ := Aside0.mk ((by rw [hg]; exact (below_size (by repeat (first | (with_reducible first | exact HB.out | apply below_alloc | apply pw_below_drewN | apply below_drew1 | refine below_set ?_ GE682.out) | exact HB.out))) : w.heap.size ≤ gb683)); have n4_ := Aside0.mk ((by rw [hg]; exact (below_size (by repeat (first | (with_reducible first | exact HB.out | apply below_alloc | apply pw_below_drewN | apply below_drew1 | refine below_set ?_ GE682.out) | exact HB.out))) : w.heap.size ≤ gb683)); have n5_ := Aside0.mk ((by rw [hg]; exact Nat.ne_of_lt (blk_lt (g := gb682) (o := .cells #[.int .i64 a0_0, .int .i64 a0_1, .string a0_2, .string a0_3, .slice A0_4 l0_4.length c0_4] 26 (0, 0)) (by (with_reducible repeat (first | refine blk_drewN ?_ _ | refine blk_drew ?_ | refine blk_alloc ?_ _)); exact BK682.out)) : gb682 ≠ gb683)); have n6_ := Aside0.mk ((by rw [hg]; exact Nat.ne_of_gt (blk_lt (g := gb682) (o := .cells #[.int .i64 a0_0, .int .i64 a0_1, .string a0_2, .string a0_3, .slice A0_4 l0_4.length c0_4] 26 (0, 0)) (by (with_reducible repeat (first | refine blk_drewN ?_ _ | refine blk_drew ?_ | refine blk_alloc ?_ _)); exact BK682.out)) : gb683 ≠ gb682)); clear BK682; clear HB; have BK682 := n0_; have HB := n1_; have BK683 := n2_; have GW683 := n3_; have GE683 := n4_; have NB682_683 := n5_; have NB683_682 := n6_; clear n0_ n1_ n2_ n3_ n4_ n5_ n6_; clear hb hbox hg))
    have n0_ := Aside0.mk (blk_drew BK682.out)
    have n1_ := Aside0.mk (blk_drew BK683.out)
    have n2_ := Aside0.mk (below_drew1 HB.out)
    clear BK682
    clear BK683
    clear HB
    have BK682 := n0_
    have BK683 := n1_
    have HB := n2_
    clear n0_ n1_ n2_
    refine start_ (n := 20) (S := fun w' => w'.cell? ⟨gb682, 0, none⟩ = some (.int .i64 a0_0) ∧ w'.cell? ⟨gb682, 1, none⟩ = some (.int .i64 a0_1) ∧ w'.cell? ⟨gb682, 2, none⟩ = some (.string a0_2) ∧ w'.cell? ⟨gb682, 3, none⟩ = some (.string a0_3) ∧ w'.cell? ⟨gb682, 4, none⟩ = some (.slice A0_4 l0_4.length c0_4) ∧ w'.cell? ⟨gb683, 0, none⟩ = some (.int .i64 a1_0) ∧ w'.cell? ⟨gb683, 1, none⟩ = some (.int .i64 a1_1) ∧ w'.cell? ⟨gb683, 2, none⟩ = some (.string a1_2) ∧ w'.cell? ⟨gb683, 3, none⟩ = some (.string a1_3) ∧ w'.cell? ⟨gb683, 4, none⟩ = some (.slice A1_4 l1_4.length c1_4)) (ds := []) #[false, false, false, false, false, false, false, false, false, false, false, false, false, false, false, false, false, false, false, false] (by kernel_rfl) rfl rfl ⟨(blk_cell BK682.out 0).trans rfl, (blk_cell BK682.out 1).trans rfl, (blk_cell BK682.out 2).trans rfl, (blk_cell BK682.out 3).trans rfl, (blk_cell BK682.out 4).trans rfl, (blk_cell BK683.out 0).trans rfl, (blk_cell BK683.out 1).trans rfl, (blk_cell BK683.out 2).trans rfl, (blk_cell BK683.out 3).trans rfl, (blk_cell BK683.out 4).trans rfl⟩ (fun hHeld => ?_); refine with_tabW term_CompareAtoms.tab1 term_CompareAtoms.bits1 (fun HT_ HW_ => ?_)
    generalize w21.drew = w22 at BK682 BK683 HB hHeld ⊢
    refine pure_ (i := 0) (N := some 6) (v := ?_) (a' := ?_) #[true, false, false, false, false, false, false, false, false, false, false, false, false, false, false, false, false, false, false, false] rfl rfl (any_of HT_.out (by kernel_rfl)) (fun _ _ _ h => h) (Or.inl ⟨by rfl, ?_⟩) ?_ ?_
    rotate_left
    · intro w'
      go_simp
      with_reducible rfl
    rotate_left
    · simp only [Act.put, List.setIfInBounds_toArray, List.set_cons_zero, List.set_cons_succ, i64_w, i32_w]
      rfl
    refine pure_ (i := 2) (N := some 8) (v := ?_) (a' := ?_) #[true, false, true, false, false, false, false, false, false, false, false, false, false, false, false, false, false, false, false, false] rfl rfl (any_of HT_.out (by kernel_rfl)) (fun _ _ _ h => h) (Or.inl ⟨by rfl, ?_⟩) ?_ ?_
    rotate_left
    · intro w'
      go_simp
      with_reducible rfl
    rotate_left
    · simp only [Act.put, List.setIfInBounds_toArray, List.set_cons_zero, List.set_cons_succ, i64_w, i32_w]
      rfl
    refine pure_ (i := 5) (N := some 11) (v := ?_) (a' := ?_) #[true, false, true, false, false, true, false, false, false, false, false, false, false, false, false, false, false, false, false, false] rfl rfl (any_of HT_.out (by kernel_rfl)) (fun _ _ _ h => h) (Or.inl ⟨by rfl, ?_⟩) ?_ ?_
    rotate_left
    · intro w'
      go_simp
      with_reducible rfl
    rotate_left
    · simp only [Act.put, List.setIfInBounds_toArray, List.set_cons_zero, List.set_cons_succ, i64_w, i32_w]
      rfl
    refine pure_ (i := 8) (N := some 14) (v := ?_) (a' := ?_) #[true, false, true, false, false, true, false, false, true, false, false, false, false, false, false, false, false, false, false, false] rfl rfl (any_of HT_.out (by kernel_rfl)) (fun _ _ _ h => h) (Or.inl ⟨by rfl, ?_⟩) ?_ ?_
    rotate_left
    · intro w'
      go_simp
      with_reducible rfl
    rotate_left
    · simp only [Act.put, List.setIfInBounds_toArray, List.set_cons_zero, List.set_cons_succ, i64_w, i32_w]
      rfl
    refine pure_ (i := 12) (N := some 18) (v := ?_) (a' := ?_) #[true, false, true, false, false, true, false, false, true, false, false, false, true, false, false, false, false, false, false, false] rfl rfl (any_of HT_.out (by kernel_rfl)) (fun _ _ _ h => h) (Or.inl ⟨by rfl, ?_⟩) ?_ ?_
    rotate_left
    · intro w'
      go_simp
      with_reducible rfl
    rotate_left
    · simp only [Act.put, List.setIfInBounds_toArray, List.set_cons_zero, List.set_cons_succ, i64_w, i32_w]
      rfl
    refine pure_ (i := 14) (N := some 20) (v := ?_) (a' := ?_) #[true, false, true, false, false, true, false, false, true, false, false, false, true, false, true, false, false, false, false, false] rfl rfl (any_of HT_.out (by kernel_rfl)) (fun _ _ _ h => h) (Or.inl ⟨by rfl, ?_⟩) ?_ ?_
    rotate_left
    · intro w'
      go_simp
      with_reducible rfl
    rotate_left
    · simp only [Act.put, List.setIfInBounds_toArray, List.set_cons_zero, List.set_cons_succ, i64_w, i32_w]
      rfl
    refine take_ (i := 1) (N := some 7) (v := ?_) (a' := ?_) #[true, true, true, false, false, true, false, false, true, false, false, false, true, false, true, false, false, false, false, false] rfl rfl (take_ofW HT_.out HW_.out (by kernel_rfl)) (fun _ _ _ h => h) (Or.inl ⟨by rfl, ?_⟩) hHeld ?_ ?_
    rotate_left
    · rintro w' ⟨s0, s1, s2, s3, s4, s5, s6, s7, s8, s9⟩
      go_simp
      with_reducible rfl
    rotate_left
    · simp only [Act.put, List.setIfInBounds_toArray, List.set_cons_zero, List.set_cons_succ, i64_w, i32_w]
      rfl
    refine take_ (i := 3) (N := some 9) (v := ?_) (a' := ?_) #[true, true, true, true, false, true, false, false, true, false, false, false, true, false, true, false, false, false, false, false] rfl rfl (take_ofW HT_.out HW_.out (by kernel_rfl)) (fun _ _ _ h => h) (Or.inl ⟨by rfl, ?_⟩) hHeld ?_ ?_
    rotate_left
    · rintro w' ⟨s0, s1, s2, s3, s4, s5, s6, s7, s8, s9⟩
      go_simp
      with_reducible rfl
    rotate_left
    · simp only [Act.put, List.setIfInBounds_toArray, List.set_cons_zero, List.set_cons_succ, i64_w, i32_w]
      rfl
    refine take_ (i := 6) (N := some 12) (v := ?_) (a' := ?_) #[true, true, true, true, false, true, true, false, true, false, false, false, true, false, true, false, false, false, false, false] rfl rfl (take_ofW HT_.out HW_.out (by kernel_rfl)) (fun _ _ _ h => h) (Or.inl ⟨by rfl, ?_⟩) hHeld ?_ ?_
    rotate_left
    · rintro w' ⟨s0, s1, s2, s3, s4, s5, s6, s7, s8, s9⟩
      go_simp
      with_reducible rfl
    rotate_left
    · simp only [Act.put, List.setIfInBounds_toArray, List.set_cons_zero, List.set_cons_succ, i64_w, i32_w]
      rfl
    refine pure_ (i := 7) (N := some 13) (v := ?_) (a' := ?_) #[true, true, true, true, false, true, true, true, true, false, false, false, true, false, true, false, false, false, false, false] rfl rfl (any_of HT_.out (by kernel_rfl)) (fun _ _ _ h => h) (Or.inl ⟨by rfl, ?_⟩) ?_ ?_
    rotate_left
    · intro w'
      go_simp
      with_reducible rfl
    rotate_left
    · simp only [Act.put, List.setIfInBounds_toArray, List.set_cons_zero, List.set_cons_succ, i64_w, i32_w]
      rfl
    refine take_ (i := 9) (N := some 15) (v := ?_) (a' := ?_) #[true, true, true, true, false, true, true, true, true, true, false, false, true, false, true, false, false, false, false, false] rfl rfl (take_ofW HT_.out HW_.out (by kernel_rfl)) (fun _ _ _ h => h) (Or.inl ⟨by rfl, ?_⟩) hHeld ?_ ?_
    rotate_left
    · rintro w' ⟨s0, s1, s2, s3, s4, s5, s6, s7, s8, s9⟩
      go_simp
      with_reducible rfl
    rotate_left
    · simp only [Act.put, List.setIfInBounds_toArray, List.set_cons_zero, List.set_cons_succ, i64_w, i32_w]
      rfl
    refine pure_ (i := 10) (N := some 16) (v := ?_) (a' := ?_) #[true, true, true, true, false, true, true, true, true, true, true, false, true, false, true, false, false, false, false, false] rfl rfl (any_of HT_.out (by kernel_rfl)) (fun _ _ _ h => h) (Or.inl ⟨by rfl, ?_⟩) ?_ ?_
    rotate_left
    · intro w'
      go_simp
      with_reducible rfl
    rotate_left
    · simp only [Act.put, List.setIfInBounds_toArray, List.set_cons_zero, List.set_cons_succ, i64_w, i32_w]
      rfl
    refine take_ (i := 13) (N := some 19) (v := ?_) (a' := ?_) #[true, true, true, true, false, true, true, true, true, true, true, false, true, true, true, false, false, false, false, false] rfl rfl (take_ofW HT_.out HW_.out (by kernel_rfl)) (fun _ _ _ h => h) (Or.inl ⟨by rfl, ?_⟩) hHeld ?_ ?_
    rotate_left
    · rintro w' ⟨s0, s1, s2, s3, s4, s5, s6, s7, s8, s9⟩
      go_simp
      with_reducible rfl
    rotate_left
    · simp only [Act.put, List.setIfInBounds_toArray, List.set_cons_zero, List.set_cons_succ, i64_w, i32_w]
      rfl
    refine take_ (i := 15) (N := some 21) (v := ?_) (a' := ?_) #[true, true, true, true, false, true, true, true, true, true, true, false, true, true, true, true, false, false, false, false] rfl rfl (take_ofW HT_.out HW_.out (by kernel_rfl)) (fun _ _ _ h => h) (Or.inl ⟨by rfl, ?_⟩) hHeld ?_ ?_
    rotate_left
    · rintro w' ⟨s0, s1, s2, s3, s4, s5, s6, s7, s8, s9⟩
      go_simp
      with_reducible rfl
    rotate_left
    · simp only [Act.put, List.setIfInBounds_toArray, List.set_cons_zero, List.set_cons_succ, i64_w, i32_w]
      rfl
    refine one_ (i := 4) (N := some 10) #[true, true, true, true, true, true, true, true, true, true, true, false, true, true, true, true, false, false, false, false] rfl rfl (one_of HT_.out (by kernel_rfl)) (by decide) (fun K hK => ?_)
    refine goes_ Tryd.func75 (by kernel_rfl) rfl #[.string a0_3, .string a1_3] (by rfl) rfl rfl (by (try simp only [List.map_toArray, List.map_cons, List.map_nil]); first | done | rfl | (simp only [List.length_drop, List.length_take]; rfl)) ?_
    with_reducible refine (strings_Compare.calls a0_3 a1_3 t684 _ A3.out).mono ?_
    rintro e w' ⟨rfl, ⟨nd, rfl⟩⟩
    refine ⟨_, rfl, ?_⟩
    refine hK.out _ _ ⟨(blk_cell BK682.out 0).trans rfl, (blk_cell BK682.out 1).trans rfl, (blk_cell BK682.out 2).trans rfl, (blk_cell BK682.out 3).trans rfl, (blk_cell BK682.out 4).trans rfl, (blk_cell BK683.out 0).trans rfl, (blk_cell BK683.out 1).trans rfl, (blk_cell BK683.out 2).trans rfl, (blk_cell BK683.out 3).trans rfl, (blk_cell BK683.out 4).trans rfl⟩ (fun hHeld => ?_)
    clear hK K
    refine norm_ (a' := ?_) ?_ ?_
    rotate_left
    · show Act.put _ (some 10) _ = _
      simp only [Act.put, List.setIfInBounds_toArray, List.set_cons_zero, List.set_cons_succ, i64_w, i32_w]
      rfl
    refine one_ (i := 11) (N := some 17) #[true, true, true, true, true, true, true, true, true, true, true, true, true, true, true, true, false, false, false, false] rfl rfl (one_of HT_.out (by kernel_rfl)) (by decide) (fun K hK => ?_)
    refine goes_ Tryd.func76 (by kernel_rfl) rfl #[.int .i64 (l0_4.length : Int), .int .i64 (l1_4.length : Int)] (by rfl) rfl rfl (by (try simp only [List.map_toArray, List.map_cons, List.map_nil]); first | done | rfl | (simp only [List.length_drop, List.length_take]; rfl)) ?_
    with_reducible refine (cmp_Compare_int.calls (l0_4.length : Int) (l1_4.length : Int) t685 _ A4.out).mono ?_
    rintro e w' ⟨rfl, ⟨nd, rfl⟩⟩
    refine ⟨_, rfl, ?_⟩
    refine hK.out _ _ ⟨(blk_cell BK682.out 0).trans rfl, (blk_cell BK682.out 1).trans rfl, (blk_cell BK682.out 2).trans rfl, (blk_cell BK682.out 3).trans rfl, (blk_cell BK682.out 4).trans rfl, (blk_cell BK683.out 0).trans rfl, (blk_cell BK683.out 1).trans rfl, (blk_cell BK683.out 2).trans rfl, (blk_cell BK683.out 3).trans rfl, (blk_cell BK683.out 4).trans rfl⟩ (fun hHeld => ?_)
    clear hK K
    refine norm_ (a' := ?_) ?_ ?_
    rotate_left
    · show Act.put _ (some 17) _ = _
      simp only [Act.put, List.setIfInBounds_toArray, List.set_cons_zero, List.set_cons_succ, i64_w, i32_w]
      rfl
    refine one_ (i := 16) (N := some 22) #[true, true, true, true, true, true, true, true, true, true, true, true, true, true, true, true, true, false, false, false] rfl rfl (one_of HT_.out (by kernel_rfl)) (by decide) (fun K hK => ?_)
    refine goes_ Tryd.func67 (by kernel_rfl) rfl #[.agg #[.int .i64 a0_0, .int .i64 a0_1, .string a0_2], .agg #[.int .i64 a1_0, .int .i64 a1_1, .string a1_2]] (by rfl) rfl rfl (by (try simp only [List.map_toArray, List.map_cons, List.map_nil]); first | done | rfl | (simp only [List.length_drop, List.length_take]; rfl)) ?_
    with_reducible refine (term_Compare.calls k a0_0 a0_1 a0_2 a1_0 a1_1 a1_2 t686 _ A5.out).mono ?_
    rintro e w23 ⟨rfl, hb⟩
    refine ⟨_, rfl, ?_⟩
    have n0_ := Aside0.mk (blk_below (g := gb682) (o := .cells #[.int .i64 a0_0, .int .i64 a0_1, .string a0_2, .string a0_3, .slice A0_4 l0_4.length c0_4] 26 (0, 0)) (by (with_reducible repeat (first | refine blk_drewN ?_ _ | refine blk_drew ?_ | refine blk_alloc ?_ _)); exact BK682.out) hb)
    have n1_ := Aside0.mk (blk_below (g := gb683) (o := .cells #[.int .i64 a1_0, .int .i64 a1_1, .string a1_2, .string a1_3, .slice A1_4 l1_4.length c1_4] 26 (0, 0)) (by (with_reducible repeat (first | refine blk_drewN ?_ _ | refine blk_drew ?_ | refine blk_alloc ?_ _)); exact BK683.out) hb)
    have n2_ := Aside0.mk (below_step (by repeat (first | (with_reducible first | exact HB.out | apply below_alloc | apply pw_below_drewN | apply below_drew1 | refine below_set ?_ GE682.out | refine below_set ?_ GE683.out) | exact HB.out)) hb)
    clear BK682
    clear BK683
    clear HB
    have BK682 := n0_
    have BK683 := n1_
    have HB := n2_
    clear n0_ n1_ n2_
    (try clear hb)
    (try clear hb2)
    (try clear hk)
    (try clear hi)
    refine hK.out _ _ ⟨(blk_cell BK682.out 0).trans rfl, (blk_cell BK682.out 1).trans rfl, (blk_cell BK682.out 2).trans rfl, (blk_cell BK682.out 3).trans rfl, (blk_cell BK682.out 4).trans rfl, (blk_cell BK683.out 0).trans rfl, (blk_cell BK683.out 1).trans rfl, (blk_cell BK683.out 2).trans rfl, (blk_cell BK683.out 3).trans rfl, (blk_cell BK683.out 4).trans rfl⟩ (fun hHeld => ?_)
    clear hK K
    refine norm_ (a' := ?_) ?_ ?_
    rotate_left
    · show Act.put _ (some 22) _ = _
      simp only [Act.put, List.setIfInBounds_toArray, List.set_cons_zero, List.set_cons_succ, i64_w, i32_w]
      rfl
    refine one_ (i := 17) (N := some 23) #[true, true, true, true, true, true, true, true, true, true, true, true, true, true, true, true, true, true, false, false] rfl rfl (one_of HT_.out (by kernel_rfl)) (by decide) (fun K hK => ?_)
    refine Kd.R_lit_step (Kd.int .i64) _ 3 ?hg (N := 23) ?hd (xs := ([t684, t685, t686] : List Int)) (inner := [.int .i64 t684, .int .i64 t685, .int .i64 t686]) (ok := fun _ => True) (okp := fun _ => True) ?hr ?hp (fun _ hk => hk) trivial (Below.refl _ _) (Nat.le_refl _) (by simp) ?_; (case hd => rfl); (case hg => rfl); (case hr => first | (go_simp; done) | (go_simp; rfl)); (case hp => exact (Reps.one (show Kd.M (Kd.int .i64) _ _ _ t684 [.int .i64 t684] from rfl) (Reps.one (show Kd.M (Kd.int .i64) _ _ _ t685 [.int .i64 t685] from rfl) (Reps.one (show Kd.M (Kd.int .i64) _ _ _ t686 [.int .i64 t686] from rfl) (Reps.none _ _)))))
    intro v688 w24 ho25 hb hg_ hnew_
    clear hg_ hnew_
    (first | rw [← Ny687.out] at ho25 | (simp only [Int.reduceToNat] at ho25; rw [← Ny687.out] at ho25))
    have n0_ := Aside0.mk (Kd.R_lower ho25 (below_size (by repeat (first | (with_reducible first | exact HB.out | apply below_alloc | apply pw_below_drewN | apply below_drew1 | refine below_set ?_ GE682.out | refine below_set ?_ GE683.out) | exact HB.out))))
    have n1_ := Aside0.mk (blk_below (g := gb682) (o := .cells #[.int .i64 a0_0, .int .i64 a0_1, .string a0_2, .string a0_3, .slice A0_4 l0_4.length c0_4] 26 (0, 0)) (by (with_reducible repeat (first | refine blk_drewN ?_ _ | refine blk_drew ?_ | refine blk_alloc ?_ _)); exact BK682.out) hb)
    have n2_ := Aside0.mk (blk_below (g := gb683) (o := .cells #[.int .i64 a1_0, .int .i64 a1_1, .string a1_2, .string a1_3, .slice A1_4 l1_4.length c1_4] 26 (0, 0)) (by (with_reducible repeat (first | refine blk_drewN ?_ _ | refine blk_drew ?_ | refine blk_alloc ?_ _)); exact BK683.out) hb)
    have n3_ := Aside0.mk (below_step (by repeat (first | (with_reducible first | exact HB.out | apply below_alloc | apply pw_below_drewN | apply below_drew1 | refine below_set ?_ GE682.out | refine below_set ?_ GE683.out) | exact HB.out)) hb)
    clear BK682
    clear BK683
    clear HB
    have HO689 := n0_
    have BK682 := n1_
    have BK683 := n2_
    have HB := n3_
    clear n0_ n1_ n2_ n3_
    clear hb ho25
    obtain ⟨Ao26, co26, eo26⟩ := Kd.R_slice HO689.out
    (first | subst eo26 | (injection eo26 with f1_ f2_ f3_; have f4_ := f1_.symm; have f5_ := f3_.symm; clear f1_ f2_ f3_; subst f4_; subst f5_))
    refine hK.out _ _ ⟨(blk_cell BK682.out 0).trans rfl, (blk_cell BK682.out 1).trans rfl, (blk_cell BK682.out 2).trans rfl, (blk_cell BK682.out 3).trans rfl, (blk_cell BK682.out 4).trans rfl, (blk_cell BK683.out 0).trans rfl, (blk_cell BK683.out 1).trans rfl, (blk_cell BK683.out 2).trans rfl, (blk_cell BK683.out 3).trans rfl, (blk_cell BK683.out 4).trans rfl⟩ (fun hHeld => ?_)
    clear hK K
    refine norm_ (a' := ?_) ?_ ?_
    rotate_left
    · show Act.put _ (some 23) _ = _
      simp only [Act.put, List.setIfInBounds_toArray, List.set_cons_zero, List.set_cons_succ, i64_w, i32_w]
      rfl
    refine one_ (i := 18) (N := some 24) #[true, true, true, true, true, true, true, true, true, true, true, true, true, true, true, true, true, true, true, false] rfl rfl (one_of HT_.out (by kernel_rfl)) (by decide) (fun K hK => ?_)
    refine goes_ Tryd.func74 (by kernel_rfl) rfl #[.slice Ao26 y687.length co26] (by rfl) rfl rfl (by (try simp only [List.map_toArray, List.map_cons, List.map_nil]); first | done | rfl | (simp only [List.length_drop, List.length_take]; rfl)) ?_
    with_reducible refine (cmp_Or_int.calls k _ _ y687 t690 _ ?side1 ?side2 A6.out).mono ?_
    (case side1 => repeat (first | exact (Kd.R_reads' HO689.out).2.2 | (with_reducible refine Kd.C_alloc ?_ _) | (with_reducible refine Kd.C_drewN ?_ _) | (with_reducible refine Kd.C_drew ?_)))
    (case side2 => exact (Kd.R_reads' HO689.out).2.1)
    rintro e w' ⟨rfl, ⟨nd, rfl⟩⟩
    refine ⟨_, rfl, ?_⟩
    refine hK.out _ _ ⟨(blk_cell BK682.out 0).trans rfl, (blk_cell BK682.out 1).trans rfl, (blk_cell BK682.out 2).trans rfl, (blk_cell BK682.out 3).trans rfl, (blk_cell BK682.out 4).trans rfl, (blk_cell BK683.out 0).trans rfl, (blk_cell BK683.out 1).trans rfl, (blk_cell BK683.out 2).trans rfl, (blk_cell BK683.out 3).trans rfl, (blk_cell BK683.out 4).trans rfl⟩ (fun hHeld => ?_)
    clear hK K
    refine norm_ (a' := ?_) ?_ ?_
    rotate_left
    · show Act.put _ (some 24) _ = _
      simp only [Act.put, List.setIfInBounds_toArray, List.set_cons_zero, List.set_cons_succ, i64_w, i32_w]
      rfl
    refine pure_ (i := 19) (N := some 5) (v := ?_) (a' := ?_) #[true, true, true, true, true, true, true, true, true, true, true, true, true, true, true, true, true, true, true, true] rfl rfl (any_of HT_.out (by kernel_rfl)) (fun _ _ _ h => h) (Or.inl ⟨by rfl, ?_⟩) ?_ ?_
    rotate_left
    · intro w'
      go_simp
      with_reducible rfl
    rotate_left
    · simp only [Act.put, List.setIfInBounds_toArray, List.set_cons_zero, List.set_cons_succ, i64_w, i32_w]
      rfl
    refine done_ (done_of HT_.out (by kernel_rfl)) ?_
    try go_wp2
    go_ret
    exact ⟨by first | rfl | (simp [errW_none, errW_some] <;> rfl) | (simp [errW_none, errW_some, bne, show ∀ l_ : List UInt8, (l_ == []) = l_.isEmpty from fun l_ => by cases l_ <;> rfl]; done) | (simp [*, errW_none, errW_some] <;> rfl), by repeat (first | (with_reducible first | exact HB.out | apply below_alloc | apply pw_below_drewN | apply below_drew1 | refine below_set ?_ GE682.out | refine below_set ?_ GE683.out) | exact HB.out)⟩

-- NOT PRINTED: function 10 (hearsaylaw02_TermAtoms)

end Go.Proofs.YtnomgmlfagiffaaDoor.T
/- CheckAtom, Fact, Vars, CompareAtoms in closed form: the program's and the document's are the same. -/
set_option linter.unusedVariables false
set_option linter.unusedSimpArgs false
namespace Go.Proofs.YtnomgmlfagiffaaDoor.T
open Go.RowKit Go.Lib Go.Proofs.YtnomgmlfagiffaaDoorW.PrintWords Go.Proofs.YtnomgmlfagiffaaDoor.Hs
def letI' (c : Int) : Bool := (decide (97 ≤ c) && decide (c ≤ 122)) || ((decide (65 ≤ c) && decide (c ≤ 90)) || ((decide (48 ≤ c) && decide (c ≤ 57)) || decide (c = 95)))
theorem rletter_f (c : Int) : hearsayref02_letter.f c = some (letI' c) := by
  unfold hearsayref02_letter.f letI'
  repeat' split
  all_goals (refine congrArg some ?_; rw [Bool.eq_iff_iff]; simp; omega)
def nameB (s : ByteArray) : Bool :=
  if s.toList = [] then false else if (s.size : Int) > 32 then false else if s.toList = [115, 97, 121, 115] then false else if bt s 0 < 97 then false else if bt s 0 > 122 then false else s.toList.all fun c => letI' (c.toNat : Int)
theorem name_step {s : ByteArray} {i : Nat} (h : i < s.size) : (s.toList.drop i).all (fun c => letI' (c.toNat : Int)) = (letI' (bt s (i : Int)) && (s.toList.drop (i + 1)).all fun c => letI' (c.toNat : Int)) := by
  obtain ⟨h1, h2⟩ := ba_get h
  rw [List.drop_eq_getElem_cons h1, List.all_cons, h2]
theorem rname_l (s : ByteArray) (hs : s.size ≤ 32) : ∀ (n i k : Nat), s.size = i + n → n + 1 ≤ k → hearsayref02_Name.l0 k s (i : Int) = some ((s.toList.drop i).all fun c => letI' (c.toNat : Int)) := by
  intro n
  induction n with
  | zero =>
    intro i k hi hk
    obtain ⟨k, rfl⟩ : ∃ m, k = m + 1 := ⟨k - 1, by omega⟩
    rw [hearsayref02_Name.l0, if_neg (by omega), List.drop_eq_nil_of_le (by rw [ba_len]; omega)]
    rfl
  | succ n ih =>
    intro i k hi hk
    obtain ⟨k, rfl⟩ : ∃ m, k = m + 1 := ⟨k - 1, by omega⟩
    rw [hearsayref02_Name.l0, if_pos (by omega), if_pos (by omega), rletter_f, name_step (by omega)]
    simp only [Option.bind_some]
    cases letI' (bt s (i : Int)) with
    | false => simp
    | true =>
      rw [if_pos rfl, wrap_succ i (by simp only [smallN]; omega), ih (i + 1) k (by omega) (by omega)]
      simp
theorem name_l (s : ByteArray) (hs : s.size ≤ 32) : ∀ (n i k : Nat), s.size = i + n → n + 1 ≤ k → term_name.l0 k s (s.size : Int) (i : Int) = some ((s.toList.drop i).all fun c => letI' (c.toNat : Int)) := by
  intro n
  induction n with
  | zero =>
    intro i k hi hk
    obtain ⟨k, rfl⟩ : ∃ m, k = m + 1 := ⟨k - 1, by omega⟩
    rw [term_name.l0, if_neg (by omega), List.drop_eq_nil_of_le (by rw [ba_len]; omega)]
    rfl
  | succ n ih =>
    intro i k hi hk
    obtain ⟨k, rfl⟩ : ∃ m, k = m + 1 := ⟨k - 1, by omega⟩
    rw [term_name.l0, if_pos (by omega), if_pos (by omega), if_pos (by omega), name_step (by omega), wrap_succ i (by simp only [smallN]; omega), ih (i + 1) k (by omega) (by omega)]
    generalize bt s (i : Int) = c
    generalize (s.toList.drop (i + 1)).all (fun c => letI' (c.toNat : Int)) = b
    have hl : ∀ x : Bool, letI' c = x → (letI' c && b) = (x && b) := fun x h => by rw [h]
    repeat' split
    all_goals first
      | (rw [show letI' c = true by simp [letI']; omega]; simp; done)
      | (rw [show letI' c = false by simp [letI']; omega]; simp; done)
theorem name_f (s : ByteArray) (k : Nat) (hk : 40 ≤ k) : term_name.f k s = some (nameB s) := by
  obtain ⟨k, rfl⟩ : ∃ m, k = m + 2 := ⟨k - 2, by omega⟩
  have hj : term_name.j0 (k + 2) s true = some false := by rw [term_name.j0]; rfl
  unfold term_name.f nameB
  by_cases h0 : s.toList = []
  · rw [if_pos h0, if_pos h0, hj]
  · have hz : 0 < s.size := by
      have := ba_len s
      cases h : s.toList with
      | nil => exact absurd h h0
      | cons a r => rw [h] at this; simp at this; omega
    rw [if_neg h0, if_neg h0]
    by_cases h1 : (s.size : Int) > 32
    · rw [if_pos h1, if_pos h1, hj]
    · rw [if_neg h1, if_neg h1]
      by_cases h2 : s.toList = [115, 97, 121, 115]
      · rw [if_pos h2, if_pos h2, hj]
      · rw [if_neg h2, if_neg h2, if_pos (by omega)]
        by_cases h3 : bt s 0 < 97
        · rw [if_pos h3, if_pos h3, hj]
        · rw [if_neg h3, if_neg h3]
          by_cases h4 : bt s 0 > 122
          · rw [if_pos h4, show decide (bt s 0 > 122) = true from decide_eq_true h4, hj]
          · rw [if_neg h4, show decide (bt s 0 > 122) = false from decide_eq_false h4, term_name.j0, if_neg (by simp)]
            have := name_l s (by omega) s.size 0 (k + 1) (by omega) (by omega)
            simpa using this
theorem rname_f (s : ByteArray) (k : Nat) (hk : 40 ≤ k) : hearsayref02_Name.f k s = some (nameB s) := by
  obtain ⟨k, rfl⟩ : ∃ m, k = m + 2 := ⟨k - 2, by omega⟩
  have hj : hearsayref02_Name.j0 (k + 2) s true = some false := by rw [hearsayref02_Name.j0]; rfl
  unfold hearsayref02_Name.f nameB
  by_cases h0 : s.toList = []
  · rw [if_pos h0, if_pos h0, hj]
  · have hz : 0 < s.size := by
      have := ba_len s
      cases h : s.toList with
      | nil => exact absurd h h0
      | cons a r => rw [h] at this; simp at this; omega
    rw [if_neg h0, if_neg h0]
    by_cases h1 : (s.size : Int) > 32
    · rw [if_pos h1, if_pos h1, hj]
    · rw [if_neg h1, if_neg h1]
      by_cases h2 : s.toList = [115, 97, 121, 115]
      · rw [if_pos h2, if_pos h2, hj]
      · rw [if_neg h2, if_neg h2, if_pos (by omega)]
        by_cases h3 : bt s 0 < 97
        · rw [if_pos h3, if_pos h3, hj]
        · rw [if_neg h3, if_neg h3]
          by_cases h4 : bt s 0 > 122
          · rw [if_pos h4, show decide (bt s 0 > 122) = true from decide_eq_true h4, hj]
          · rw [if_neg h4, show decide (bt s 0 > 122) = false from decide_eq_false h4, hearsayref02_Name.j0, if_neg (by simp)]
            have := rname_l s (by omega) s.size 0 (k + 1) (by omega) (by omega)
            simpa using this
def nilT (t : Tm) : Bool := t.f0 == 0 && (t.f1 == 0 && (t.f2.toList == ([] : List UInt8)))
def checkA (t : Tm) (nm : ByteArray) (l : List Tm) : Int :=
  if nameB nm then (if (l.length : Int) > 8 then 22 else if !nilT t && (!isPrin t && !isVar t) then 23 else if l.any badT then 24 else 0) else 21
theorem check_f (t : Tm) (nm : ByteArray) (l : List Tm) (ol : l.all okT = true) (ll : l.length < smallN) (k : Nat) (hk : 40 ≤ k) : term_CheckAtom.f k t.f0 t.f1 t.f2 nm l = some (checkA t nm l) := by
  obtain ⟨k, rfl⟩ : ∃ m, k = m + 1 := ⟨k - 1, by omega⟩
  have hj : ∀ b : Bool, term_CheckAtom.j0 (k + 1) b t.f0 t.f1 t.f2 nm l = some (if b then 23 else if l.any badT then 24 else 0) := fun b => by
    rw [term_CheckAtom.j0]
    cases b with
    | true => rfl
    | false =>
      rw [if_neg (by simp), slices_ContainsFunc_bad.f, if_pos (by simp [ol, ll])]
      simp only [Option.bind_some]
      cases l.any badT <;> rfl
  unfold term_CheckAtom.f checkA
  rw [name_f nm _ hk]
  simp only [Option.bind_some]
  cases nameB nm with
  | false => rfl
  | true =>
    rw [if_pos rfl, if_pos rfl]
    by_cases h8 : (l.length : Int) > 8
    · rw [if_pos h8, if_pos h8]
    · rw [if_neg h8, if_neg h8]
      rw [prin_f, var_f]
      simp only [Option.bind_some, hj]
      unfold nilT
      by_cases h0 : t.f0 = 0
      · by_cases h1 : t.f1 = 0
        · by_cases h2 : t.f2.toList = []
          · simp [h0, h1, h2]
          · cases isPrin t <;> cases isVar t <;> simp [h0, h1, h2]
        · cases isPrin t <;> cases isVar t <;> simp [h0, h1]
      · cases isPrin t <;> cases isVar t <;> simp [h0]
theorem rcheckAtom_l (t : Tm) (nm : ByteArray) (l : List Tm) (hl : l.length ≤ 8) : ∀ (n i k : Nat), l.length = i + n → n + 1 ≤ k → hearsayref02_CheckAtom.l0 k (i : Int) t.f0 t.f1 t.f2 nm l = some (if (l.drop i).any badT then 24 else 0) := by
  intro n
  induction n with
  | zero =>
    intro i k hi hk
    obtain ⟨k, rfl⟩ : ∃ m, k = m + 1 := ⟨k - 1, by omega⟩
    rw [hearsayref02_CheckAtom.l0, if_neg (by omega), List.drop_eq_nil_of_le (by omega)]
    rfl
  | succ n ih =>
    intro i k hi hk
    obtain ⟨k, rfl⟩ : ∃ m, k = m + 1 := ⟨k - 1, by omega⟩
    rw [hearsayref02_CheckAtom.l0, if_pos (by omega), if_pos (by omega), rd_at23 _ _ (show i < l.length by omega), rconst_f, rvar_f, wrap_succ i (by simp only [smallN]; omega), ih (i + 1) k (by omega) (by omega), List.drop_eq_getElem_cons (show i < l.length by omega), List.any_cons]
    simp only [Option.bind_some, badT]
    by_cases hc : isConst l[i] = true <;> by_cases hv : isVar l[i] = true <;> simp [hc, hv]
theorem rprin_f (t : Tm) : hearsayref02_Principal.f t.f0 t.f1 t.f2 = some (isPrin t) := by
  unfold hearsayref02_Principal.f isPrin
  rw [rconst_f]
  cases isConst t
  · simp
  · by_cases h : t.f0 = 2 <;> simp [h]
theorem rcheckAtom_f (t : Tm) (nm : ByteArray) (l : List Tm) (k : Nat) (hk : 40 ≤ k) : hearsayref02_CheckAtom.f k t.f0 t.f1 t.f2 nm l = some (checkA t nm l) := by
  obtain ⟨k, rfl⟩ : ∃ m, k = m + 1 := ⟨k - 1, by omega⟩
  unfold hearsayref02_CheckAtom.f checkA
  rw [rname_f nm _ hk]
  simp only [Option.bind_some]
  cases nameB nm with
  | false => rfl
  | true =>
    rw [if_pos rfl, if_pos rfl]
    by_cases h8 : (l.length : Int) > 8
    · rw [if_pos h8, if_pos h8]
    · rw [if_neg h8, if_neg h8]
      have hj : ∀ b : Bool, hearsayref02_CheckAtom.j0 (k + 1) b t.f0 t.f1 t.f2 nm l = some (if b then 23 else if l.any badT then 24 else 0) := fun b => by
        rw [hearsayref02_CheckAtom.j0]
        cases b with
        | true => rfl
        | false =>
          rw [if_neg (by simp)]
          have := rcheckAtom_l t nm l (by omega) l.length 0 k (by omega) (by omega)
          simpa using this
      rw [rprin_f, rvar_f]
      simp only [Option.bind_some, hj]
      unfold nilT
      by_cases h0 : t.f0 = 0
      · by_cases h1 : t.f1 = 0
        · by_cases h2 : t.f2.toList = []
          · simp [h0, h1, h2]
          · cases isPrin t <;> cases isVar t <;> simp [h0, h1, h2]
        · cases isPrin t <;> cases isVar t <;> simp [h0, h1]
      · cases isPrin t <;> cases isVar t <;> simp [h0]
def pushV (out : List Int) (t : Tm) : List Int := if isVar t && !out.contains t.f1 then out ++ [t.f1] else out
theorem varsL_cons (t : Tm) (l : List Tm) (out : List Int) : varsL (t :: l) out = varsL l (pushV out t) := rfl
theorem pushV_len (out : List Int) (t : Tm) : (pushV out t).length ≤ out.length + 1 := by
  unfold pushV
  split
  · simp
  · omega
theorem varsL_len : ∀ (l : List Tm) (out : List Int), (varsL l out).length ≤ out.length + l.length
  | [], out => Nat.le_refl _
  | t :: l, out => by
    rw [varsL_cons]
    have := varsL_len l (pushV out t)
    have := pushV_len out t
    simp only [List.length_cons]
    omega
theorem rd_int (s : List Int) (i : Nat) (h : i < s.length) : rd s (i : Int) = s[i] := by
  simp [rd, List.getD_eq_getElem?_getD, List.getElem?_eq_getElem h]
theorem ramong_f (out : List Int) (v : Int) (ls : out.length < smallN) : ∀ k, out.length + 1 ≤ k → hearsayref02_Among.f k out v = some (out.contains v) := by
  intro k hk
  unfold hearsayref02_Among.f
  suffices h : ∀ (n i k : Nat), out.length = i + n → n + 1 ≤ k → hearsayref02_Among.l0 k out v (i : Int) = some ((out.drop i).contains v) by
    have := h out.length 0 k (by omega) hk
    simpa using this
  intro n
  induction n with
  | zero =>
    intro i k hi hk
    obtain ⟨k, rfl⟩ : ∃ m, k = m + 1 := ⟨k - 1, by omega⟩
    rw [hearsayref02_Among.l0, if_neg (by omega), List.drop_eq_nil_of_le (by omega)]
    rfl
  | succ n ih =>
    intro i k hi hk
    obtain ⟨k, rfl⟩ : ∃ m, k = m + 1 := ⟨k - 1, by omega⟩
    rw [hearsayref02_Among.l0, if_pos (by omega), if_pos (by omega), rd_int _ _ (show i < out.length by omega), wrap_succ i (by omega), ih (i + 1) k (by omega) (by omega), List.drop_eq_getElem_cons (show i < out.length by omega), List.contains_cons]
    by_cases h : out[i] = v
    · rw [if_pos h]; simp [h]
    · rw [if_neg h, show (v == out[i]) = false by simp; exact fun e => h e.symm]; simp
theorem rvars_l (p : List Tm) (lp : p.length < smallN) : ∀ (n i : Nat) (out : List Int) (k : Nat), p.length = i + n → out.length ≤ i → n + p.length + 2 ≤ k → hearsayref02_Vars.l0 k p out (i : Int) = some (varsL (p.drop i) out) := by
  intro n
  induction n with
  | zero =>
    intro i out k hi ho hk
    obtain ⟨k, rfl⟩ : ∃ m, k = m + 1 := ⟨k - 1, by omega⟩
    rw [hearsayref02_Vars.l0, if_neg (by omega), List.drop_eq_nil_of_le (by omega)]
    rfl
  | succ n ih =>
    intro i out k hi ho hk
    obtain ⟨k, rfl⟩ : ∃ m, k = m + 1 := ⟨k - 1, by omega⟩
    rw [hearsayref02_Vars.l0, if_pos (by omega), if_pos (by omega), rd_at23 _ _ (show i < p.length by omega), rvar_f, wrap_succ i (by omega), List.drop_eq_getElem_cons (show i < p.length by omega), varsL_cons]
    simp only [Option.bind_some]
    unfold pushV
    cases hv : isVar p[i] with
    | false =>
      rw [if_neg (by simp), ih (i + 1) out k (by omega) (by omega) (by omega)]
      simp
    | true =>
      rw [if_pos rfl, ramong_f out _ (by omega) k (by omega)]
      simp only [Option.bind_some]
      cases hc : out.contains p[i].f1 with
      | true =>
        rw [if_pos rfl, ih (i + 1) out k (by omega) (by omega) (by omega)]
        simp
      | false =>
        rw [if_neg (by simp), if_pos (by simp only [smallN] at lp; omega), ih (i + 1) _ k (by omega) (by simp; omega) (by omega)]
        simp
theorem rvars_f (t : Tm) (nm : ByteArray) (l : List Tm) (ll : l.length + 1 < smallN) (k : Nat) (hk : 2 * l.length + 6 ≤ k) : hearsayref02_Vars.f k t.f0 t.f1 t.f2 nm l = some (varsL (t :: l) []) := by
  unfold hearsayref02_Vars.f
  rw [rplaces_f t nm l (by omega)]
  simp only [Option.bind_some]
  have := rvars_l (t :: l) (by simpa using ll) (l.length + 1) 0 [] k (by simp) (by simp) (by simp; omega)
  simpa using this
theorem varsL_grows : ∀ (l : List Tm) (out : List Int), out.length ≤ (varsL l out).length
  | [], out => Nat.le_refl _
  | t :: l, out => by
    rw [varsL_cons]
    have := varsL_grows l (pushV out t)
    have : out.length ≤ (pushV out t).length := by unfold pushV; split <;> simp
    omega
theorem varsL_none : ∀ l : List Tm, ((varsL l []).length = 0) ↔ (l.any isVar = false)
  | [] => by simp [varsL]
  | t :: l => by
    rw [varsL_cons, List.any_cons]
    cases h : isVar t with
    | false =>
      have e : pushV [] t = [] := by simp [pushV, h]
      rw [e, varsL_none l]
      simp
    | true =>
      have e : pushV [] t = [t.f1] := by simp [pushV, h]
      have := varsL_grows l [t.f1]
      rw [e]
      simp only [List.length_singleton] at this
      constructor
      · intro h2; omega
      · intro h2; simp at h2
def factA (t : Tm) (nm : ByteArray) (l : List Tm) : Bool := checkA t nm l == 0 && !(t :: l).any isVar
theorem fact_f (t : Tm) (nm : ByteArray) (l : List Tm) (ol : l.all okT = true) (ll : l.length < smallN) (k : Nat) (hk : 40 ≤ k) : term_Fact.f k t.f0 t.f1 t.f2 nm l = some (factA t nm l) := by
  unfold term_Fact.f factA
  rw [check_f t nm l ol ll k hk, var_f, slices_ContainsFunc_var.f, if_pos (by simp [ol, ll])]
  simp only [Option.bind_some, List.any_cons]
  by_cases h : checkA t nm l = 0
  · cases isVar t <;> cases l.any isVar <;> simp [h]
  · cases isVar t <;> cases l.any isVar <;> simp [h]
theorem rfact_f (t : Tm) (nm : ByteArray) (l : List Tm) (ll : l.length + 1 < smallN) (k : Nat) (hk : 2 * l.length + 40 ≤ k) : hearsayref02_Fact.f k t.f0 t.f1 t.f2 nm l = some (factA t nm l) := by
  unfold hearsayref02_Fact.f factA
  rw [rcheckAtom_f t nm l k (by omega), rvars_f t nm l ll k (by omega)]
  simp only [Option.bind_some]
  have h2 := varsL_none (t :: l)
  by_cases h : checkA t nm l = 0
  · rw [if_pos h]
    cases hv : (t :: l).any isVar with
    | false => have := h2.2 hv; simp [h, this]
    | true =>
      have : ¬ (varsL (t :: l) []).length = 0 := fun e => by rw [h2.1 e] at hv; cases hv
      have e : (((varsL (t :: l) []).length : Int) == 0) = false := by simp; intro e; exact this (by rw [e]; rfl)
      rw [e]; simp
  · rw [if_neg h]
    simp [h]
theorem ints_self (s : List Int) (ls : s.length < smallN) : ∀ k, s.length + 1 ≤ k → hearsaylaw02_ints.f k s s = some true := by
  intro k hk
  unfold hearsaylaw02_ints.f
  rw [if_pos rfl]
  suffices h : ∀ (n i k : Nat), s.length = i + n → n + 1 ≤ k → hearsaylaw02_ints.l0 k s s (i : Int) = some true from h s.length 0 k (by omega) hk
  intro n
  induction n with
  | zero =>
    intro i k hi hk
    obtain ⟨k, rfl⟩ : ∃ m, k = m + 1 := ⟨k - 1, by omega⟩
    rw [hearsaylaw02_ints.l0, if_neg (by omega)]
  | succ n ih =>
    intro i k hi hk
    obtain ⟨k, rfl⟩ : ∃ m, k = m + 1 := ⟨k - 1, by omega⟩
    rw [hearsaylaw02_ints.l0, if_pos (by omega), if_pos (by omega), if_pos (by omega), if_pos rfl, wrap_succ i (by omega), ih (i + 1) k (by omega) (by omega)]
theorem cmpL_list (c : Tm → Tm → Int) : ∀ l m : List Tm, cmpL c l m = cmpList c l m
  | [], [] => rfl
  | [], _ :: _ => rfl
  | _ :: _, [] => rfl
  | x :: l, y :: m => by
    unfold cmpL cmpList
    rw [cmpL_list c l m]
    by_cases h : c x y = 0 <;> simp [h]
theorem cmpA_f (t u : Tm) (nm nn : ByteArray) (l m : List Tm) (ol : l.all okT = true) (om : m.all okT = true) (ll : l.length < smallN) (k : Nat) :
    term_CompareAtoms.f (k + 4) t.f0 t.f1 t.f2 nm l u.f0 u.f1 u.f2 nn m = some (cmpA t nm l u nn m) := by
  unfold term_CompareAtoms.f cmpA
  rw [cmpStr_f, cmpInt_f, cmpT_f, slices_CompareFunc_term.f, if_pos (by simp [ol, om, ll])]
  simp only [Option.bind_some]
  rw [orI_f, cmpL_list]
  simp only [Option.bind_some]
  unfold orI
  by_cases h1 : compareBytes nm.toList nn.toList = 0
  · by_cases h2 : compareInt (l.length : Int) m.length = 0
    · by_cases h3 : cmpT t u = 0 <;> simp [h1, h2, h3]
    · simp [h1, h2]
  · simp [h1]
end Go.Proofs.YtnomgmlfagiffaaDoor.T
