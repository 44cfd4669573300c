-- By a program of this session (wip/tools/myprint.py), out of the translation.
import Derived.Test.YtnomgmlfagiffaaDoorT0Mt
import Derived.Test.YtnomgmlfagiffaaDoorT10Mt
namespace Go.Proofs.YtnomgmlfagiffaaDoor.T
open Go.RowKit Go.Proofs.YtnomgmlfagiffaaDoorW.PrintWords Go.Proofs.YtnomgmlfagiffaaDoorW.PrintLast Go.Proofs.YtnomgmlfagiffaaDoorW.PrintMore
attribute [local go_sem] max2_int min2_int max_two min_two max_three min_three max_four min_four   -- for this text's walks alone
set_option linter.unusedVariables false
set_option linter.unusedSimpArgs false

mutual
def hearsayref02_CompareAtoms.j0 : Nat → Int → Int → Int → ByteArray → ByteArray → List (S23) → Int → Int → ByteArray → ByteArray → List (S23) → Option (Int)
  | 0, _, _, _, _, _, _, _, _, _, _, _ => none
  | k + 1, x5, x440000, x440001, x440002, x440003, x440004, x441000, x441001, x441002, x441003, x441004 => if x5 = 0 then ((hearsayref02_Compare.f k x440000 x440001 x440002 x441000 x441001 x441002).bind fun t443 => (hearsayref02_CompareAtoms.j1 k t443 x440000 x440001 x440002 x440003 x440004 x441000 x441001 x441002 x441003 x441004)) else (hearsayref02_CompareAtoms.j1 k x5 x440000 x440001 x440002 x440003 x440004 x441000 x441001 x441002 x441003 x441004)
def hearsayref02_CompareAtoms.j1 : Nat → Int → Int → Int → ByteArray → ByteArray → List (S23) → Int → Int → ByteArray → ByteArray → List (S23) → Option (Int)
  | 0, _, _, _, _, _, _, _, _, _, _, _ => none
  | k + 1, x5, x440000, x440001, x440002, x440003, x440004, x441000, x441001, x441002, x441003, x441004 => hearsayref02_CompareAtoms.l0 k x5 0 x440000 x440001 x440002 x440003 x440004 x441000 x441001 x441002 x441003 x441004
def hearsayref02_CompareAtoms.l0 : Nat → Int → Int → Int → Int → ByteArray → ByteArray → List (S23) → Int → Int → ByteArray → ByteArray → List (S23) → Option (Int)
  | 0, _, _, _, _, _, _, _, _, _, _, _, _ => none
  | k + 1, x5, x6, x440000, x440001, x440002, x440003, x440004, x441000, x441001, x441002, x441003, x441004 => if x5 = 0 then (if x6 < (x440004.length : Int) then (if 0 ≤ x6 then (if x6 < (x441004.length : Int) then ((hearsayref02_Compare.f k ((rd_T23 x440004 x6).f0) ((rd_T23 x440004 x6).f1) ((rd_T23 x440004 x6).f2) ((rd_T23 x441004 x6).f0) ((rd_T23 x441004 x6).f1) ((rd_T23 x441004 x6).f2)).bind fun t446 => (hearsayref02_CompareAtoms.l0 k t446 (wrap64 (x6 + 1)) x440000 x440001 x440002 x440003 x440004 x441000 x441001 x441002 x441003 x441004)) else (none)) else (none)) else (some x5)) else (some x5)
end
def hearsayref02_CompareAtoms.f (k : Nat) (a0_0 : Int) (a0_1 : Int) (a0_2 : ByteArray) (a0_3 : ByteArray) (l0_4 : List (S23)) (a1_0 : Int) (a1_1 : Int) (a1_2 : ByteArray) (a1_3 : ByteArray) (l1_4 : List (S23)) : Option (Int) := (hearsayref02_Texts.f k a0_3 a1_3).bind fun t441 => (if t441 = 0 then ((hearsayref02_ints.f (l0_4.length : Int) (l1_4.length : Int)).bind fun t442 => (hearsayref02_CompareAtoms.j0 k t442 a0_0 a0_1 a0_2 a0_3 l0_4 a1_0 a1_1 a1_2 a1_3 l1_4)) else (hearsayref02_CompareAtoms.j0 k t441 a0_0 a0_1 a0_2 a0_3 l0_4 a1_0 a1_1 a1_2 a1_3 l1_4))
def hearsayref02_CompareAtoms.T9 : Bool × List (List Nat × List Nat) := (true, [([], []), ([0], [0]), ([], []), ([1, 2], [1, 2]), ([3], [3]), ([], []), ([5], [5]), ([], []), ([6, 7], [6, 7]), ([8], [8]), ([4, 9], [4, 9]), ([10, 10, 0, 1, 2, 3, 4, 5, 6, 7, 8, 9, 10], [10])])
def hearsayref02_CompareAtoms.B9 : List Nat := [0, 1, 0, 7, 15, 0, 32, 0, 224, 480, 1023, 2047]
theorem hearsayref02_CompareAtoms.tab9 : rtab .any (opsOf Tryd.f46 9) = hearsayref02_CompareAtoms.T9 := by kernel_rfl
theorem hearsayref02_CompareAtoms.bits9 : waitsOk hearsayref02_CompareAtoms.T9.2 hearsayref02_CompareAtoms.B9 = true := by kernel_rfl
set_option maxHeartbeats 8000000 in
set_option maxRecDepth 100000 in
theorem hearsayref02_CompareAtoms.calls (k : Nat) (a0_0 : Int) (a0_1 : Int) (a0_2 : ByteArray) (a0_3 : ByteArray) (A0_4 : Option Addr) (c0_4 : Nat) (l0_4 : List (S23)) (a1_0 : Int) (a1_1 : Int) (a1_2 : ByteArray) (a1_3 : ByteArray) (A1_4 : Option Addr) (c1_4 : Nat) (l1_4 : List (S23)) (r : Int) (w : World) (hr0_4 : Kd.C k23 w A0_4 l0_4.length l0_4) (hc0_4 : l0_4.length ≤ c0_4) (hr1_4 : Kd.C k23 w A1_4 l1_4.length l1_4) (hc1_4 : l1_4.length ≤ c1_4) (h : hearsayref02_CompareAtoms.f k a0_0 a0_1 a0_2 a0_3 l0_4 a1_0 a1_1 a1_2 a1_3 l1_4 = some r) :
    Calls Tryd.prog 46 #[.agg #[.int .i64 a0_0, .int .i64 a0_1, .string a0_2, .string a0_3, .slice A0_4 l0_4.length c0_4], .agg #[.int .i64 a1_0, .int .i64 a1_1, .string a1_2, .string a1_3, .slice A1_4 l1_4.length c1_4]] w fun e w' => e = .returned (.int .i64 r) ∧ Below w.heap.size w w' := by
  have hu26 := Tryd.underlying26
  have hu23 := Tryd.underlying23
  have HR0_4 := Aside0.mk hr0_4
  have HC0_4 := Aside0.mk hc0_4
  clear hr0_4 hc0_4
  have HR1_4 := Aside0.mk hr1_4
  have HC1_4 := Aside0.mk hc1_4
  clear hr1_4 hc1_4
  have HB := Aside0.mk (Below.refl w.heap.size w)
  have H : ((hearsayref02_Texts.f k a0_3 a1_3).bind fun t441 => (if t441 = 0 then ((hearsayref02_ints.f (l0_4.length : Int) (l1_4.length : Int)).bind fun t442 => (hearsayref02_CompareAtoms.j0 k t442 a0_0 a0_1 a0_2 a0_3 l0_4 a1_0 a1_1 a1_2 a1_3 l1_4)) else (hearsayref02_CompareAtoms.j0 k t441 a0_0 a0_1 a0_2 a0_3 l0_4 a1_0 a1_1 a1_2 a1_3 l1_4))) = some r := h
  clear h
  replace H := Option.bind_eq_some_iff.mp H
  obtain ⟨t441, A30, H⟩ := H
  replace H : (if t441 = 0 then ((hearsayref02_ints.f (l0_4.length : Int) (l1_4.length : Int)).bind fun t442 => (hearsayref02_CompareAtoms.j0 k t442 a0_0 a0_1 a0_2 a0_3 l0_4 a1_0 a1_1 a1_2 a1_3 l1_4)) else (hearsayref02_CompareAtoms.j0 k t441 a0_0 a0_1 a0_2 a0_3 l0_4 a1_0 a1_1 a1_2 a1_3 l1_4)) = some r := H
  have A3 := Aside0.mk A30
  clear A30
  have HC4 := Aside0.mk H
  clear H
  go_enter Tryd.func46, Tryd.ntmps46
  go_upto_if 13 with (first | ((with_reducible refine gate_dst (N := 2) rfl ?_); (try (refine gate_guard (by rfl) ?_; dsimp only)); refine box_event ?hg (N := 2) ?hd (cs := #[.int .i64 a0_0, .int .i64 a0_1, .string a0_2, .string a0_3, .slice A0_4 l0_4.length c0_4]) (t := 26) ?hr ?_; (case hd => rfl); (case hg => rfl); (case hr => first | (go_simp; done) | (go_simp; rfl)); intro gb439 hg w5 hbox hb; have n0_ := Aside0.mk (below_step (by repeat (first | (with_reducible first | exact HB.out | apply below_alloc | apply pw_below_drewN | apply below_drew1) | exact HB.out)) hb); have n1_ := Aside0.mk (hbox); have n2_ := Aside0.mk ((by rw [hg]; exact (below_size (by repeat (first | (with_reducible first | exact HB.out | apply below_alloc | apply pw_below_drewN | apply below_drew1) | exact HB.out))) : w.heap.size ≤ gb439)); have n3_ := Aside0.mk ((by rw [hg]; exact (below_size (by repeat (first | (with_reducible first | exact HB.out | apply below_alloc | apply pw_below_drewN | apply below_drew1) | exact HB.out))) : w.heap.size ≤ gb439)); clear HB; have HB := n0_; have BK439 := n1_; have GW439 := n2_; have GE439 := n3_; clear n0_ n1_ n2_ n3_; clear hb hbox hg) | ((with_reducible refine gate_dst (N := 3) rfl ?_); (try (refine gate_guard (by rfl) ?_; dsimp only)); refine box_event ?hg (N := 3) ?hd (cs := #[.int .i64 a1_0, .int .i64 a1_1, .string a1_2, .string a1_3, .slice A1_4 l1_4.length c1_4]) (t := 26) ?hr ?_; (case hd => rfl); (case hg => rfl); (case hr => first | (go_simp; done) | (go_simp; rfl)); intro gb440 hg w6 hbox hb; have n0_ := Aside0.mk (blk_below (g := gb439) (o := .cells #[.int .i64 a0_0, .int .i64 a0_1, .string a0_2, .string a0_3, .slice A0_4 l0_4.length c0_4] 26 (0, 0)) (by (with_reducible repeat (first | refine blk_drewN ?_ _ | refine blk_drew ?_ | refine blk_alloc ?_ _)); exact BK439.out) hb); have n1_ := Aside0.mk (below_step (by repeat (first | (with_reducible first | exact HB.out | apply below_alloc | apply pw_below_drewN | apply below_drew1 | refine below_set ?_ GE439.out) | exact HB.out)) hb); have n2_ := Aside0.mk (hbox); have n3_ := Aside0.mk ((by rw [hg]; exact (below_size (by repeat (first | (with_reducible first | exact HB.out | apply below_alloc | apply pw_below_drewN | apply below_drew1 | refine below_set ?_ GE439.out) | exact HB.out))) : w.heap.size ≤ gb440)); have n4_ := Aside0.mk ((by rw [hg]; exact (below_size (by repeat (first | (with_reducible first | exact HB.out | apply below_alloc | apply pw_below_drewN | apply below_drew1 | refine below_set ?_ GE439.out) | exact HB.out))) : w.heap.size ≤ gb440)); have n5_ := Aside0.mk ((by rw [hg]; exact Nat.ne_of_lt (blk_lt (g := gb439) (o := .cells #[.int .i64 a0_0, .int .i64 a0_1, .string a0_2, .string a0_3, .slice A0_4 l0_4.length c0_4] 26 (0, 0)) (by (with_reducible repeat (first | refine blk_drewN ?_ _ | refine blk_drew ?_ | refine blk_alloc ?_ _)); exact BK439.out)) : gb439 ≠ gb440)); have n6_ := Aside0.mk ((by rw [hg]; exact Nat.ne_of_gt (blk_lt (g := gb439) (o := .cells #[.int .i64 a0_0, .int .i64 a0_1, .string a0_2, .string a0_3, .slice A0_4 l0_4.length c0_4] 26 (0, 0)) (by (with_reducible repeat (first | refine blk_drewN ?_ _ | refine blk_drew ?_ | refine blk_alloc ?_ _)); exact BK439.out)) : gb440 ≠ gb439)); clear BK439; clear HB; have BK439 := n0_; have HB := n1_; have BK440 := n2_; have GW440 := n3_; have GE440 := n4_; have NB439_440 := n5_; have NB440_439 := n6_; clear n0_ n1_ n2_ n3_ n4_ n5_ n6_; clear hb hbox hg; have hnb7 := NB439_440.out; have hnc7 := NB440_439.out; have hcz8_0 : w6.cell? ⟨gb439, 0, none⟩ = some (.int .i64 a0_0) := (blk_cell BK439.out 0).trans rfl; have hcz8_1 : w6.cell? ⟨gb439, 1, none⟩ = some (.int .i64 a0_1) := (blk_cell BK439.out 1).trans rfl; have hcz8_2 : w6.cell? ⟨gb439, 2, none⟩ = some (.string a0_2) := (blk_cell BK439.out 2).trans rfl; have hcz8_3 : w6.cell? ⟨gb439, 3, none⟩ = some (.string a0_3) := (blk_cell BK439.out 3).trans rfl; have hcz8_4 : w6.cell? ⟨gb439, 4, none⟩ = some (.slice A0_4 l0_4.length c0_4) := (blk_cell BK439.out 4).trans rfl; have hfz8_0 := blk_frozen BK439.out 0; have hfz8_1 := blk_frozen BK439.out 1; have hfz8_2 := blk_frozen BK439.out 2; have hfz8_3 := blk_frozen BK439.out 3; have hfz8_4 := blk_frozen BK439.out 4; have hcz9_0 : w6.cell? ⟨gb440, 0, none⟩ = some (.int .i64 a1_0) := (blk_cell BK440.out 0).trans rfl; have hcz9_1 : w6.cell? ⟨gb440, 1, none⟩ = some (.int .i64 a1_1) := (blk_cell BK440.out 1).trans rfl; have hcz9_2 : w6.cell? ⟨gb440, 2, none⟩ = some (.string a1_2) := (blk_cell BK440.out 2).trans rfl; have hcz9_3 : w6.cell? ⟨gb440, 3, none⟩ = some (.string a1_3) := (blk_cell BK440.out 3).trans rfl; have hcz9_4 : w6.cell? ⟨gb440, 4, none⟩ = some (.slice A1_4 l1_4.length c1_4) := (blk_cell BK440.out 4).trans rfl; have hfz9_0 := blk_frozen BK440.out 0; have hfz9_1 := blk_frozen BK440.out 1; have hfz9_2 := blk_frozen BK440.out 2; have hfz9_3 := blk_frozen BK440.out 3; have hfz9_4 := blk_frozen BK440.out 4) | ((with_reducible refine gate_callee (f := 78) rfl ?_); refine goesL_ (some 11) rfl rfl Tryd.func78 (by kernel_rfl) rfl #[.string a0_3, .string a1_3] rfl (by (try simp only [List.map_toArray, List.map_cons, List.map_nil]); first | done | rfl | (simp only [List.length_drop, List.length_take]; rfl)) ?_; (with_reducible refine (hearsayref02_Texts.calls k a0_3 a1_3 t441 _ A3.out).mono ?_); rintro e w' ⟨rfl, ⟨nd, rfl⟩⟩; refine ⟨_, rfl, ?_⟩))
  (try simp only [Act.put, List.setIfInBounds_toArray, List.set_cons_zero, List.set_cons_succ])
  go_cut [5] (fun v5 wc => ∃ (kq : Nat) (x5_3 : Int), v5 = .int .i64 x5_3 ∧ Aside0 (hearsayref02_CompareAtoms.j0 kq x5_3 a0_0 a0_1 a0_2 a0_3 l0_4 a1_0 a1_1 a1_2 a1_3 l1_4 = some r) ∧ Aside0 (kq ≤ k) ∧ Aside0 (wc.heap[gb439]? = some (.cells #[.int .i64 a0_0, .int .i64 a0_1, .string a0_2, .string a0_3, (.slice A0_4 l0_4.length c0_4)] 26 (0, 0))) ∧ Aside0 (wc.heap[gb440]? = some (.cells #[.int .i64 a1_0, .int .i64 a1_1, .string a1_2, .string a1_3, (.slice A1_4 l1_4.length c1_4)] 26 (0, 0))) ∧ Aside0 (Below w.heap.size w wc))
  case first =>
    have H := HC4.out
    clear HC4
    by_cases c10 : t441 = 0
    · rw [if_pos c10] at H
      have c10b0 : (t441 == 0) = true := beq_iff_eq.mpr c10
      have c10b1 : (t441 != 0) = false := bne_eq_false_iff_eq.mpr c10
      clear c10
      (first | rw [c10b0] | (simp only [i64_w, i32_w]; rw [c10b0]) | skip)
      replace H := Option.bind_eq_some_iff.mp H
      obtain ⟨t442, A110, H⟩ := H
      replace H : (hearsayref02_CompareAtoms.j0 k t442 a0_0 a0_1 a0_2 a0_3 l0_4 a1_0 a1_1 a1_2 a1_3 l1_4) = some r := H
      have A11 := Aside0.mk A110
      clear A110
      have H' := Aside0.mk H
      clear H
      have hnb12 := NB439_440.out
      have hnc12 := NB440_439.out
      have hcz13_0 : w6.cell? ⟨gb439, 0, none⟩ = some (.int .i64 a0_0) := (blk_cell BK439.out 0).trans rfl
      have hcz13_1 : w6.cell? ⟨gb439, 1, none⟩ = some (.int .i64 a0_1) := (blk_cell BK439.out 1).trans rfl
      have hcz13_2 : w6.cell? ⟨gb439, 2, none⟩ = some (.string a0_2) := (blk_cell BK439.out 2).trans rfl
      have hcz13_3 : w6.cell? ⟨gb439, 3, none⟩ = some (.string a0_3) := (blk_cell BK439.out 3).trans rfl
      have hcz13_4 : w6.cell? ⟨gb439, 4, none⟩ = some (.slice A0_4 l0_4.length c0_4) := (blk_cell BK439.out 4).trans rfl
      have hfz13_0 := blk_frozen BK439.out 0
      have hfz13_1 := blk_frozen BK439.out 1
      have hfz13_2 := blk_frozen BK439.out 2
      have hfz13_3 := blk_frozen BK439.out 3
      have hfz13_4 := blk_frozen BK439.out 4
      have hcz14_0 : w6.cell? ⟨gb440, 0, none⟩ = some (.int .i64 a1_0) := (blk_cell BK440.out 0).trans rfl
      have hcz14_1 : w6.cell? ⟨gb440, 1, none⟩ = some (.int .i64 a1_1) := (blk_cell BK440.out 1).trans rfl
      have hcz14_2 : w6.cell? ⟨gb440, 2, none⟩ = some (.string a1_2) := (blk_cell BK440.out 2).trans rfl
      have hcz14_3 : w6.cell? ⟨gb440, 3, none⟩ = some (.string a1_3) := (blk_cell BK440.out 3).trans rfl
      have hcz14_4 : w6.cell? ⟨gb440, 4, none⟩ = some (.slice A1_4 l1_4.length c1_4) := (blk_cell BK440.out 4).trans rfl
      have hfz14_0 := blk_frozen BK440.out 0
      have hfz14_1 := blk_frozen BK440.out 1
      have hfz14_2 := blk_frozen BK440.out 2
      have hfz14_3 := blk_frozen BK440.out 3
      have hfz14_4 := blk_frozen BK440.out 4
      go_wp2_with (first | ((with_reducible refine gate_callee (f := 79) rfl ?_); refine goesL_ (some 20) rfl rfl Tryd.func79 (by kernel_rfl) rfl #[.int .i64 (l0_4.length : Int), .int .i64 (l1_4.length : Int)] rfl (by (try simp only [List.map_toArray, List.map_cons, List.map_nil]); first | done | rfl | (simp only [List.length_drop, List.length_take]; rfl)) ?_; (with_reducible refine (hearsayref02_ints.calls (l0_4.length : Int) (l1_4.length : Int) t442 _ A11.out).mono ?_); rintro e w' ⟨rfl, ⟨nd, rfl⟩⟩; refine ⟨_, rfl, ?_⟩))
      go_meet
      case rel => exact ⟨_, (t442), (by first | rfl | (simp; done) | (simp [*]; done)), H', ⟨by first | omega | exact Nat.le_refl _⟩, ⟨by (with_reducible repeat (first | refine blk_drewN ?_ _ | refine blk_drew ?_ | refine blk_alloc ?_ _)); exact BK439.out⟩, ⟨by (with_reducible repeat (first | refine blk_drewN ?_ _ | refine blk_drew ?_ | refine blk_alloc ?_ _)); exact BK440.out⟩, ⟨by repeat (first | (with_reducible first | exact HB.out | apply below_alloc | apply pw_below_drewN | apply below_drew1 | refine below_set ?_ GE439.out | refine below_set ?_ GE440.out) | exact HB.out)⟩⟩
    · rw [if_neg c10] at H
      have c10b0 : (t441 == 0) = false := beq_eq_false_iff_ne.mpr c10
      have c10b1 : (t441 != 0) = true := bne_iff_ne.mpr c10
      (first | rw [c10b0] | (simp only [i64_w, i32_w]; rw [c10b0]) | skip)
      have H' := Aside0.mk H
      clear H
      go_wp2
      go_meet
      case rel => exact ⟨_, (t441), (by first | rfl | (simp; done) | (simp [*]; done)), H', ⟨by first | omega | exact Nat.le_refl _⟩, ⟨by (with_reducible repeat (first | refine blk_drewN ?_ _ | refine blk_drew ?_ | refine blk_alloc ?_ _)); exact BK439.out⟩, ⟨by (with_reducible repeat (first | refine blk_drewN ?_ _ | refine blk_drew ?_ | refine blk_alloc ?_ _)); exact BK440.out⟩, ⟨by repeat (first | (with_reducible first | exact HB.out | apply below_alloc | apply pw_below_drewN | apply below_drew1 | refine below_set ?_ GE439.out | refine below_set ?_ GE440.out) | exact HB.out)⟩⟩
  case rest =>
    clear HC4
    try clear c1
    try clear p2
    try clear c4
    try clear c7
    try clear c10
    try clear c10b0
    try clear c10b1
    try clear c12
    try clear hcz13_0
    try clear hcz13_1
    try clear hcz13_2
    try clear hcz13_3
    try clear hcz13_4
    try clear hcz14_0
    try clear hcz14_1
    try clear hcz14_2
    try clear hcz14_3
    try clear hcz14_4
    try clear hcz8_0
    try clear hcz8_1
    try clear hcz8_2
    try clear hcz8_3
    try clear hcz8_4
    try clear hcz9_0
    try clear hcz9_1
    try clear hcz9_2
    try clear hcz9_3
    try clear hcz9_4
    try clear hfz13_0
    try clear hfz13_1
    try clear hfz13_2
    try clear hfz13_3
    try clear hfz13_4
    try clear hfz14_0
    try clear hfz14_1
    try clear hfz14_2
    try clear hfz14_3
    try clear hfz14_4
    try clear hfz8_0
    try clear hfz8_1
    try clear hfz8_2
    try clear hfz8_3
    try clear hfz8_4
    try clear hfz9_0
    try clear hfz9_1
    try clear hfz9_2
    try clear hfz9_3
    try clear hfz9_4
    obtain ⟨kq, x5_3, rfl, HA, HJ3, BK439, BK440, HB⟩ := hcut
    cases kq with
    | zero => exact absurd HA.out (by simp [hearsayref02_CompareAtoms.j0])
    | succ kj3 =>
      have H := HA.out
      clear HA
      simp only [hearsayref02_CompareAtoms.j0] at H
      have HC15 := Aside0.mk H
      clear H
      go_upto_if 22 with (fail)
      go_cut [5] (fun v5 wc => ∃ (kq : Nat) (x5_14 : Int), v5 = .int .i64 x5_14 ∧ Aside0 (hearsayref02_CompareAtoms.j1 kq x5_14 a0_0 a0_1 a0_2 a0_3 l0_4 a1_0 a1_1 a1_2 a1_3 l1_4 = some r) ∧ Aside0 (kq ≤ kj3) ∧ Aside0 (wc.heap[gb439]? = some (.cells #[.int .i64 a0_0, .int .i64 a0_1, .string a0_2, .string a0_3, (.slice A0_4 l0_4.length c0_4)] 26 (0, 0))) ∧ Aside0 (wc.heap[gb440]? = some (.cells #[.int .i64 a1_0, .int .i64 a1_1, .string a1_2, .string a1_3, (.slice A1_4 l1_4.length c1_4)] 26 (0, 0))) ∧ Aside0 (Below w.heap.size w wc))
      case first =>
        have H := HC15.out
        clear HC15
        by_cases c16 : x5_3 = 0
        · rw [if_pos c16] at H
          have c16b0 : (x5_3 == 0) = true := beq_iff_eq.mpr c16
          have c16b1 : (x5_3 != 0) = false := bne_eq_false_iff_eq.mpr c16
          clear c16
          (first | rw [c16b0] | (simp only [i64_w, i32_w]; rw [c16b0]) | skip)
          replace H := Option.bind_eq_some_iff.mp H
          obtain ⟨t443, A170, H⟩ := H
          replace H : (hearsayref02_CompareAtoms.j1 kj3 t443 a0_0 a0_1 a0_2 a0_3 l0_4 a1_0 a1_1 a1_2 a1_3 l1_4) = some r := H
          have A17 := Aside0.mk A170
          clear A170
          have H' := Aside0.mk H
          clear H
          have hnb18 := NB439_440.out
          have hnc18 := NB440_439.out
          have hcz19_0 : wc.cell? ⟨gb439, 0, none⟩ = some (.int .i64 a0_0) := (blk_cell BK439.out 0).trans rfl
          have hcz19_1 : wc.cell? ⟨gb439, 1, none⟩ = some (.int .i64 a0_1) := (blk_cell BK439.out 1).trans rfl
          have hcz19_2 : wc.cell? ⟨gb439, 2, none⟩ = some (.string a0_2) := (blk_cell BK439.out 2).trans rfl
          have hcz19_3 : wc.cell? ⟨gb439, 3, none⟩ = some (.string a0_3) := (blk_cell BK439.out 3).trans rfl
          have hcz19_4 : wc.cell? ⟨gb439, 4, none⟩ = some (.slice A0_4 l0_4.length c0_4) := (blk_cell BK439.out 4).trans rfl
          have hfz19_0 := blk_frozen BK439.out 0
          have hfz19_1 := blk_frozen BK439.out 1
          have hfz19_2 := blk_frozen BK439.out 2
          have hfz19_3 := blk_frozen BK439.out 3
          have hfz19_4 := blk_frozen BK439.out 4
          have hcz20_0 : wc.cell? ⟨gb440, 0, none⟩ = some (.int .i64 a1_0) := (blk_cell BK440.out 0).trans rfl
          have hcz20_1 : wc.cell? ⟨gb440, 1, none⟩ = some (.int .i64 a1_1) := (blk_cell BK440.out 1).trans rfl
          have hcz20_2 : wc.cell? ⟨gb440, 2, none⟩ = some (.string a1_2) := (blk_cell BK440.out 2).trans rfl
          have hcz20_3 : wc.cell? ⟨gb440, 3, none⟩ = some (.string a1_3) := (blk_cell BK440.out 3).trans rfl
          have hcz20_4 : wc.cell? ⟨gb440, 4, none⟩ = some (.slice A1_4 l1_4.length c1_4) := (blk_cell BK440.out 4).trans rfl
          have hfz20_0 := blk_frozen BK440.out 0
          have hfz20_1 := blk_frozen BK440.out 1
          have hfz20_2 := blk_frozen BK440.out 2
          have hfz20_3 := blk_frozen BK440.out 3
          have hfz20_4 := blk_frozen BK440.out 4
          go_wp2_with (first | ((with_reducible refine gate_callee (f := 68) rfl ?_); refine goesL_ (some 27) rfl rfl Tryd.func68 (by kernel_rfl) rfl #[.agg #[.int .i64 a0_0, .int .i64 a0_1, .string a0_2], .agg #[.int .i64 a1_0, .int .i64 a1_1, .string a1_2]] rfl (by (try simp only [List.map_toArray, List.map_cons, List.map_nil]); first | done | rfl | (simp only [List.length_drop, List.length_take]; rfl)) ?_; (with_reducible refine (hearsayref02_Compare.calls kj3 a0_0 a0_1 a0_2 a1_0 a1_1 a1_2 t443 _ A17.out).mono ?_); rintro e w21 ⟨rfl, hb⟩; refine ⟨_, rfl, ?_⟩; have n0_ := Aside0.mk (blk_below (g := gb439) (o := .cells #[.int .i64 a0_0, .int .i64 a0_1, .string a0_2, .string a0_3, .slice A0_4 l0_4.length c0_4] 26 (0, 0)) (by (with_reducible repeat (first | refine blk_drewN ?_ _ | refine blk_drew ?_ | refine blk_alloc ?_ _)); exact BK439.out) hb); have n1_ := Aside0.mk (blk_below (g := gb440) (o := .cells #[.int .i64 a1_0, .int .i64 a1_1, .string a1_2, .string a1_3, .slice A1_4 l1_4.length c1_4] 26 (0, 0)) (by (with_reducible repeat (first | refine blk_drewN ?_ _ | refine blk_drew ?_ | refine blk_alloc ?_ _)); exact BK440.out) hb); have n2_ := Aside0.mk (below_step (by repeat (first | (with_reducible first | exact HB.out | apply below_alloc | apply pw_below_drewN | apply below_drew1 | refine below_set ?_ GE439.out | refine below_set ?_ GE440.out) | exact HB.out)) hb); clear BK439; clear BK440; clear HB; have BK439 := n0_; have BK440 := n1_; have HB := n2_; clear n0_ n1_ n2_; (try clear hb); (try clear hb2); (try clear hk); (try clear hi)))
          go_meet
          case rel => exact ⟨_, (t443), (by first | rfl | (simp; done) | (simp [*]; done)), H', ⟨by have := HJ3.out; first | omega | exact Nat.le_refl _⟩, ⟨by (with_reducible repeat (first | refine blk_drewN ?_ _ | refine blk_drew ?_ | refine blk_alloc ?_ _)); exact BK439.out⟩, ⟨by (with_reducible repeat (first | refine blk_drewN ?_ _ | refine blk_drew ?_ | refine blk_alloc ?_ _)); exact BK440.out⟩, ⟨by repeat (first | (with_reducible first | exact HB.out | apply below_alloc | apply pw_below_drewN | apply below_drew1 | refine below_set ?_ GE439.out | refine below_set ?_ GE440.out) | exact HB.out)⟩⟩
        · rw [if_neg c16] at H
          have c16b0 : (x5_3 == 0) = false := beq_eq_false_iff_ne.mpr c16
          have c16b1 : (x5_3 != 0) = true := bne_iff_ne.mpr c16
          (first | rw [c16b0] | (simp only [i64_w, i32_w]; rw [c16b0]) | skip)
          have H' := Aside0.mk H
          clear H
          go_wp2
          go_meet
          case rel => exact ⟨_, (x5_3), (by first | rfl | (simp; done) | (simp [*]; done)), H', ⟨by have := HJ3.out; first | omega | exact Nat.le_refl _⟩, ⟨by (with_reducible repeat (first | refine blk_drewN ?_ _ | refine blk_drew ?_ | refine blk_alloc ?_ _)); exact BK439.out⟩, ⟨by (with_reducible repeat (first | refine blk_drewN ?_ _ | refine blk_drew ?_ | refine blk_alloc ?_ _)); exact BK440.out⟩, ⟨by repeat (first | (with_reducible first | exact HB.out | apply below_alloc | apply pw_below_drewN | apply below_drew1 | refine below_set ?_ GE439.out | refine below_set ?_ GE440.out) | exact HB.out)⟩⟩
      case rest =>
        clear HC15
        try clear c1
        try clear p2
        try clear c4
        try clear c6
        try clear c7
        try clear c10
        try clear c10b0
        try clear c10b1
        try clear c12
        try clear c16
        try clear c16b0
        try clear c16b1
        try clear c18
        try clear hcz13_0
        try clear hcz13_1
        try clear hcz13_2
        try clear hcz13_3
        try clear hcz13_4
        try clear hcz14_0
        try clear hcz14_1
        try clear hcz14_2
        try clear hcz14_3
        try clear hcz14_4
        try clear hcz19_0
        try clear hcz19_1
        try clear hcz19_2
        try clear hcz19_3
        try clear hcz19_4
        try clear hcz20_0
        try clear hcz20_1
        try clear hcz20_2
        try clear hcz20_3
        try clear hcz20_4
        try clear hcz8_0
        try clear hcz8_1
        try clear hcz8_2
        try clear hcz8_3
        try clear hcz8_4
        try clear hcz9_0
        try clear hcz9_1
        try clear hcz9_2
        try clear hcz9_3
        try clear hcz9_4
        try clear hfz13_0
        try clear hfz13_1
        try clear hfz13_2
        try clear hfz13_3
        try clear hfz13_4
        try clear hfz14_0
        try clear hfz14_1
        try clear hfz14_2
        try clear hfz14_3
        try clear hfz14_4
        try clear hfz19_0
        try clear hfz19_1
        try clear hfz19_2
        try clear hfz19_3
        try clear hfz19_4
        try clear hfz20_0
        try clear hfz20_1
        try clear hfz20_2
        try clear hfz20_3
        try clear hfz20_4
        try clear hfz8_0
        try clear hfz8_1
        try clear hfz8_2
        try clear hfz8_3
        try clear hfz8_4
        try clear hfz9_0
        try clear hfz9_1
        try clear hfz9_2
        try clear hfz9_3
        try clear hfz9_4
        try clear p2
        obtain ⟨kq, x5_14, rfl, HA, HJ14, BK439, BK440, HB⟩ := hcut
        cases kq with
        | zero => exact absurd HA.out (by simp [hearsayref02_CompareAtoms.j1])
        | succ kj14 =>
          have H := HA.out
          clear HA
          simp only [hearsayref02_CompareAtoms.j1] at H
          have H' := Aside0.mk H
          clear H
          go_wp2
          go_loopg [5, 6] kj14 (fun kq v5 v6 w' => ∃ (x5_3 : Int) (x6_3 : Int), v5 = .int .i64 x5_3 ∧ v6 = .int .i64 x6_3 ∧ Aside0 (hearsayref02_CompareAtoms.l0 kq x5_3 x6_3 a0_0 a0_1 a0_2 a0_3 l0_4 a1_0 a1_1 a1_2 a1_3 l1_4 = some r) ∧ Aside0 (kq ≤ kj14) ∧ Aside0 (w'.heap[gb439]? = some (.cells #[.int .i64 a0_0, .int .i64 a0_1, .string a0_2, .string a0_3, (.slice A0_4 l0_4.length c0_4)] 26 (0, 0))) ∧ Aside0 (w'.heap[gb440]? = some (.cells #[.int .i64 a1_0, .int .i64 a1_1, .string a1_2, .string a1_3, (.slice A1_4 l1_4.length c1_4)] 26 (0, 0))) ∧ Aside0 (Below w.heap.size w w'))
          case atStart => exact ⟨(x5_14), (0), (by first | rfl | (simp; done) | (simp [*]; done)), (by first | rfl | (simp; done) | (simp [*]; done)), H', ⟨Nat.le_refl _⟩, ⟨by (with_reducible repeat (first | refine blk_drewN ?_ _ | refine blk_drew ?_ | refine blk_alloc ?_ _)); exact BK439.out⟩, ⟨by (with_reducible repeat (first | refine blk_drewN ?_ _ | refine blk_drew ?_ | refine blk_alloc ?_ _)); exact BK440.out⟩, ⟨by repeat (first | (with_reducible first | exact HB.out | apply below_alloc | apply pw_below_drewN | apply below_drew1 | refine below_set ?_ GE439.out | refine below_set ?_ GE440.out) | exact HB.out)⟩⟩
          case round =>
            clear H'
            try clear c1
            try clear p2
            try clear c4
            try clear c6
            try clear c7
            try clear c10
            try clear c10b0
            try clear c10b1
            try clear c12
            try clear c16
            try clear c16b0
            try clear c16b1
            try clear c18
            try clear hcz13_0
            try clear hcz13_1
            try clear hcz13_2
            try clear hcz13_3
            try clear hcz13_4
            try clear hcz14_0
            try clear hcz14_1
            try clear hcz14_2
            try clear hcz14_3
            try clear hcz14_4
            try clear hcz19_0
            try clear hcz19_1
            try clear hcz19_2
            try clear hcz19_3
            try clear hcz19_4
            try clear hcz20_0
            try clear hcz20_1
            try clear hcz20_2
            try clear hcz20_3
            try clear hcz20_4
            try clear hcz8_0
            try clear hcz8_1
            try clear hcz8_2
            try clear hcz8_3
            try clear hcz8_4
            try clear hcz9_0
            try clear hcz9_1
            try clear hcz9_2
            try clear hcz9_3
            try clear hcz9_4
            try clear hfz13_0
            try clear hfz13_1
            try clear hfz13_2
            try clear hfz13_3
            try clear hfz13_4
            try clear hfz14_0
            try clear hfz14_1
            try clear hfz14_2
            try clear hfz14_3
            try clear hfz14_4
            try clear hfz19_0
            try clear hfz19_1
            try clear hfz19_2
            try clear hfz19_3
            try clear hfz19_4
            try clear hfz20_0
            try clear hfz20_1
            try clear hfz20_2
            try clear hfz20_3
            try clear hfz20_4
            try clear hfz8_0
            try clear hfz8_1
            try clear hfz8_2
            try clear hfz8_3
            try clear hfz8_4
            try clear hfz9_0
            try clear hfz9_1
            try clear hfz9_2
            try clear hfz9_3
            try clear hfz9_4
            try clear p2
            obtain ⟨x5_3, x6_3, rfl, rfl, HA, HK3, BK439, BK440, HB⟩ := hrel
            cases gk with
            | zero => exact absurd HA.out (by simp [hearsayref02_CompareAtoms.l0])
            | succ k3 =>
              have H := HA.out
              clear HA
              simp only [hearsayref02_CompareAtoms.l0] at H
              by_cases c22 : x5_3 = 0
              · rw [if_pos c22] at H
                have c22b0 : (x5_3 == 0) = true := beq_iff_eq.mpr c22
                have c22b1 : (x5_3 != 0) = false := bne_eq_false_iff_eq.mpr c22
                clear c22
                by_cases c23 : x6_3 < (l0_4.length : Int)
                · rw [if_pos c23] at H
                  have c23b0 : decide (x6_3 < (l0_4.length : Int)) = true := decide_eq_true c23
                  clear c23
                  by_cases c24 : 0 ≤ x6_3
                  · rw [if_pos c24] at H
                    have c24b0 : decide (0 ≤ x6_3) = true := decide_eq_true c24
                    clear c24
                    by_cases c25 : x6_3 < (l1_4.length : Int)
                    · rw [if_pos c25] at H
                      have c25b0 : decide (x6_3 < (l1_4.length : Int)) = true := decide_eq_true c25
                      clear c25
                      replace H := Option.bind_eq_some_iff.mp H
                      obtain ⟨t446, A260, H⟩ := H
                      replace H : (hearsayref02_CompareAtoms.l0 k3 t446 (wrap64 (x6_3 + 1)) a0_0 a0_1 a0_2 a0_3 l0_4 a1_0 a1_1 a1_2 a1_3 l1_4) = some r := H
                      have A26 := Aside0.mk A260
                      clear A260
                      have H' := Aside0.mk H
                      clear H
                      have hnb27 := NB439_440.out
                      have hnc27 := NB440_439.out
                      have hcz28_0 : wr.cell? ⟨gb439, 0, none⟩ = some (.int .i64 a0_0) := (blk_cell BK439.out 0).trans rfl
                      have hcz28_1 : wr.cell? ⟨gb439, 1, none⟩ = some (.int .i64 a0_1) := (blk_cell BK439.out 1).trans rfl
                      have hcz28_2 : wr.cell? ⟨gb439, 2, none⟩ = some (.string a0_2) := (blk_cell BK439.out 2).trans rfl
                      have hcz28_3 : wr.cell? ⟨gb439, 3, none⟩ = some (.string a0_3) := (blk_cell BK439.out 3).trans rfl
                      have hcz28_4 : wr.cell? ⟨gb439, 4, none⟩ = some (.slice A0_4 l0_4.length c0_4) := (blk_cell BK439.out 4).trans rfl
                      have hfz28_0 := blk_frozen BK439.out 0
                      have hfz28_1 := blk_frozen BK439.out 1
                      have hfz28_2 := blk_frozen BK439.out 2
                      have hfz28_3 := blk_frozen BK439.out 3
                      have hfz28_4 := blk_frozen BK439.out 4
                      try go_wp2
                      have n0_ := Aside0.mk (blk_drew BK439.out)
                      have n1_ := Aside0.mk (blk_drew BK440.out)
                      have n2_ := Aside0.mk (below_drew1 HB.out)
                      clear BK439
                      clear BK440
                      clear HB
                      have BK439 := n0_
                      have BK440 := n1_
                      have HB := n2_
                      clear n0_ n1_ n2_
                      have p444 : 0 ≤ (x6_3 : Int) := of_decide_eq_true (by first | (with_reducible assumption) | assumption)
                      have q444 : x6_3 < (l0_4.length : Int) := of_decide_eq_true (by first | (with_reducible assumption) | assumption)
                      obtain ⟨ad444, e444, hx444_0, hx444_1, hx444_2⟩ := at_T23 HR0_4.out x6_3 p444 q444
                      have hw444_2 := hx444_2
                      have hw444_1 := hx444_1
                      have hw444_0 := hx444_0
                      cases e444
                      replace hx444_0 := (HB.out.cell (World.block_lt_of_cell? w _ hx444_0)).trans hx444_0
                      replace hx444_1 := (HB.out.cell (World.block_lt_of_cell? w _ hx444_1)).trans hx444_1
                      replace hx444_2 := (HB.out.cell (World.block_lt_of_cell? w _ hx444_2)).trans hx444_2
                      replace p444 := eq_true p444
                      replace q444 := eq_true q444
                      have p445 : 0 ≤ (x6_3 : Int) := of_decide_eq_true (by first | (with_reducible assumption) | assumption)
                      have q445 : x6_3 < (l1_4.length : Int) := of_decide_eq_true (by first | (with_reducible assumption) | assumption)
                      obtain ⟨ad445, e445, hx445_0, hx445_1, hx445_2⟩ := at_T23 HR1_4.out x6_3 p445 q445
                      have hw445_2 := hx445_2
                      have hw445_1 := hx445_1
                      have hw445_0 := hx445_0
                      cases e445
                      replace hx445_0 := (HB.out.cell (World.block_lt_of_cell? w _ hx445_0)).trans hx445_0
                      replace hx445_1 := (HB.out.cell (World.block_lt_of_cell? w _ hx445_1)).trans hx445_1
                      replace hx445_2 := (HB.out.cell (World.block_lt_of_cell? w _ hx445_2)).trans hx445_2
                      replace p445 := eq_true p445
                      replace q445 := eq_true q445
                      refine start_ (n := 12) (S := fun w' => w'.cell? ⟨gb439, 0, none⟩ = some (.int .i64 a0_0) ∧ w'.cell? ⟨gb439, 1, none⟩ = some (.int .i64 a0_1) ∧ w'.cell? ⟨gb439, 2, none⟩ = some (.string a0_2) ∧ w'.cell? ⟨gb439, 3, none⟩ = some (.string a0_3) ∧ w'.cell? ⟨gb439, 4, none⟩ = some (.slice (some ad444) l0_4.length c0_4) ∧ w'.cell? ⟨gb440, 0, none⟩ = some (.int .i64 a1_0) ∧ w'.cell? ⟨gb440, 1, none⟩ = some (.int .i64 a1_1) ∧ w'.cell? ⟨gb440, 2, none⟩ = some (.string a1_2) ∧ w'.cell? ⟨gb440, 3, none⟩ = some (.string a1_3) ∧ w'.cell? ⟨gb440, 4, none⟩ = some (.slice (some ad445) l1_4.length c1_4) ∧ w'.cell? (ad444.add ((x6_3).toNat * 3)) = some (.int .i64 ((rd_T23 l0_4 x6_3).f0)) ∧ w'.cell? ⟨(ad444.add ((x6_3).toNat * 3)).block, (ad444.add ((x6_3).toNat * 3)).off + 1, none⟩ = some (.int .i64 ((rd_T23 l0_4 x6_3).f1)) ∧ w'.cell? ⟨(ad444.add ((x6_3).toNat * 3)).block, (ad444.add ((x6_3).toNat * 3)).off + 2, none⟩ = some (.string ((rd_T23 l0_4 x6_3).f2)) ∧ w'.cell? (ad445.add ((x6_3).toNat * 3)) = some (.int .i64 ((rd_T23 l1_4 x6_3).f0)) ∧ w'.cell? ⟨(ad445.add ((x6_3).toNat * 3)).block, (ad445.add ((x6_3).toNat * 3)).off + 1, none⟩ = some (.int .i64 ((rd_T23 l1_4 x6_3).f1)) ∧ w'.cell? ⟨(ad445.add ((x6_3).toNat * 3)).block, (ad445.add ((x6_3).toNat * 3)).off + 2, none⟩ = some (.string ((rd_T23 l1_4 x6_3).f2))) (ds := []) #[false, false, false, false, false, false, false, false, false, false, false, false] (by kernel_rfl) rfl rfl ⟨(blk_cell BK439.out 0).trans rfl, (blk_cell BK439.out 1).trans rfl, (blk_cell BK439.out 2).trans rfl, (blk_cell BK439.out 3).trans rfl, (blk_cell BK439.out 4).trans rfl, (blk_cell BK440.out 0).trans rfl, (blk_cell BK440.out 1).trans rfl, (blk_cell BK440.out 2).trans rfl, (blk_cell BK440.out 3).trans rfl, (blk_cell BK440.out 4).trans rfl, ((HB.out.cell (World.block_lt_of_cell? w _ hw444_0)).trans hw444_0), ((HB.out.cell (World.block_lt_of_cell? w _ hw444_1)).trans hw444_1), ((HB.out.cell (World.block_lt_of_cell? w _ hw444_2)).trans hw444_2), ((HB.out.cell (World.block_lt_of_cell? w _ hw445_0)).trans hw445_0), ((HB.out.cell (World.block_lt_of_cell? w _ hw445_1)).trans hw445_1), ((HB.out.cell (World.block_lt_of_cell? w _ hw445_2)).trans hw445_2)⟩ (fun hHeld => ?_); refine with_tabW hearsayref02_CompareAtoms.tab9 hearsayref02_CompareAtoms.bits9 (fun HT_ HW_ => ?_)
                      generalize wr.drew = w29 at BK439 BK440 HB hx444_0 hx444_1 hx444_2 hx445_0 hx445_1 hx445_2 hHeld ⊢
                      refine pure_ (i := 0) (N := some 39) (v := ?_) (a' := ?_) #[true, false, false, false, false, false, false, false, false, false, false, false] rfl rfl (any_of HT_.out (by kernel_rfl)) (fun _ _ _ h => h) (Or.inl ⟨by rfl, ?_⟩) ?_ ?_
                      rotate_left
                      · intro w'
                        go_simp
                        with_reducible rfl
                      rotate_left
                      · simp only [Act.put, List.setIfInBounds_toArray, List.set_cons_zero, List.set_cons_succ, i64_w, i32_w]
                        rfl
                      refine pure_ (i := 2) (N := some 41) (v := ?_) (a' := ?_) #[true, false, true, false, false, false, false, false, false, false, false, false] rfl rfl (any_of HT_.out (by kernel_rfl)) (fun _ _ _ h => h) (Or.inl ⟨by rfl, ?_⟩) ?_ ?_
                      rotate_left
                      · intro w'
                        go_simp
                        with_reducible rfl
                      rotate_left
                      · simp only [Act.put, List.setIfInBounds_toArray, List.set_cons_zero, List.set_cons_succ, i64_w, i32_w]
                        rfl
                      refine pure_ (i := 5) (N := some 44) (v := ?_) (a' := ?_) #[true, false, true, false, false, true, false, false, false, false, false, false] rfl rfl (any_of HT_.out (by kernel_rfl)) (fun _ _ _ h => h) (Or.inl ⟨by rfl, ?_⟩) ?_ ?_
                      rotate_left
                      · intro w'
                        go_simp
                        with_reducible rfl
                      rotate_left
                      · simp only [Act.put, List.setIfInBounds_toArray, List.set_cons_zero, List.set_cons_succ, i64_w, i32_w]
                        rfl
                      refine pure_ (i := 7) (N := some 46) (v := ?_) (a' := ?_) #[true, false, true, false, false, true, false, true, false, false, false, false] rfl rfl (any_of HT_.out (by kernel_rfl)) (fun _ _ _ h => h) (Or.inl ⟨by rfl, ?_⟩) ?_ ?_
                      rotate_left
                      · intro w'
                        go_simp
                        with_reducible rfl
                      rotate_left
                      · simp only [Act.put, List.setIfInBounds_toArray, List.set_cons_zero, List.set_cons_succ, i64_w, i32_w]
                        rfl
                      refine take_ (i := 1) (N := some 40) (v := ?_) (a' := ?_) #[true, true, true, false, false, true, false, true, false, false, false, false] rfl rfl (take_ofW HT_.out HW_.out (by kernel_rfl)) (fun _ _ _ h => h) (Or.inl ⟨by rfl, ?_⟩) hHeld ?_ ?_
                      rotate_left
                      · rintro w' ⟨s0, s1, s2, s3, s4, s5, s6, s7, s8, s9, s10, s11, s12, s13, s14, s15⟩
                        go_simp
                        with_reducible rfl
                      rotate_left
                      · simp only [Act.put, List.setIfInBounds_toArray, List.set_cons_zero, List.set_cons_succ, i64_w, i32_w]
                        rfl
                      refine pure_ (i := 3) (N := some 42) (v := ?_) (a' := ?_) #[true, true, true, true, false, true, false, true, false, false, false, false] rfl rfl (any_of HT_.out (by kernel_rfl)) (fun _ _ _ h => h) (Or.inl ⟨by rfl, ?_⟩) ?_ ?_
                      rotate_left
                      · intro w'
                        go_simp
                        with_reducible rfl
                      rotate_left
                      · simp only [Act.put, List.setIfInBounds_toArray, List.set_cons_zero, List.set_cons_succ, i64_w, i32_w]
                        rfl
                      refine take_ (i := 4) (N := some 43) (v := ?_) (a' := ?_) #[true, true, true, true, true, true, false, true, false, false, false, false] rfl rfl (take_ofW HT_.out HW_.out (by kernel_rfl)) (fun _ _ _ h => h) (Or.inl ⟨by rfl, ?_⟩) hHeld ?_ ?_
                      rotate_left
                      · rintro w' ⟨s0, s1, s2, s3, s4, s5, s6, s7, s8, s9, s10, s11, s12, s13, s14, s15⟩
                        go_simp
                        with_reducible rfl
                      rotate_left
                      · simp only [Act.put, List.setIfInBounds_toArray, List.set_cons_zero, List.set_cons_succ, i64_w, i32_w]
                        rfl
                      refine take_ (i := 6) (N := some 45) (v := ?_) (a' := ?_) #[true, true, true, true, true, true, true, true, false, false, false, false] rfl rfl (take_ofW HT_.out HW_.out (by kernel_rfl)) (fun _ _ _ h => h) (Or.inl ⟨by rfl, ?_⟩) hHeld ?_ ?_
                      rotate_left
                      · rintro w' ⟨s0, s1, s2, s3, s4, s5, s6, s7, s8, s9, s10, s11, s12, s13, s14, s15⟩
                        go_simp
                        with_reducible rfl
                      rotate_left
                      · simp only [Act.put, List.setIfInBounds_toArray, List.set_cons_zero, List.set_cons_succ, i64_w, i32_w]
                        rfl
                      refine pure_ (i := 8) (N := some 47) (v := ?_) (a' := ?_) #[true, true, true, true, true, true, true, true, true, false, false, false] rfl rfl (any_of HT_.out (by kernel_rfl)) (fun _ _ _ h => h) (Or.inl ⟨by rfl, ?_⟩) ?_ ?_
                      rotate_left
                      · intro w'
                        go_simp
                        with_reducible rfl
                      rotate_left
                      · simp only [Act.put, List.setIfInBounds_toArray, List.set_cons_zero, List.set_cons_succ, i64_w, i32_w]
                        rfl
                      refine take_ (i := 9) (N := some 48) (v := ?_) (a' := ?_) #[true, true, true, true, true, true, true, true, true, true, false, false] rfl rfl (take_ofW HT_.out HW_.out (by kernel_rfl)) (fun _ _ _ h => h) (Or.inl ⟨by rfl, ?_⟩) hHeld ?_ ?_
                      rotate_left
                      · rintro w' ⟨s0, s1, s2, s3, s4, s5, s6, s7, s8, s9, s10, s11, s12, s13, s14, s15⟩
                        go_simp
                        with_reducible rfl
                      rotate_left
                      · simp only [Act.put, List.setIfInBounds_toArray, List.set_cons_zero, List.set_cons_succ, i64_w, i32_w]
                        rfl
                      refine one_ (i := 10) (N := some 49) #[true, true, true, true, true, true, true, true, true, true, true, false] rfl rfl (one_of HT_.out (by kernel_rfl)) (by decide) (fun K hK => ?_)
                      refine goes_ Tryd.func68 (by kernel_rfl) rfl #[.agg #[.int .i64 ((rd_T23 l0_4 x6_3).f0), .int .i64 ((rd_T23 l0_4 x6_3).f1), .string ((rd_T23 l0_4 x6_3).f2)], .agg #[.int .i64 ((rd_T23 l1_4 x6_3).f0), .int .i64 ((rd_T23 l1_4 x6_3).f1), .string ((rd_T23 l1_4 x6_3).f2)]] (by rfl) rfl rfl (by (try simp only [List.map_toArray, List.map_cons, List.map_nil]); first | done | rfl | (simp only [List.length_drop, List.length_take]; rfl)) ?_
                      with_reducible refine (hearsayref02_Compare.calls k3 ((rd_T23 l0_4 x6_3).f0) ((rd_T23 l0_4 x6_3).f1) ((rd_T23 l0_4 x6_3).f2) ((rd_T23 l1_4 x6_3).f0) ((rd_T23 l1_4 x6_3).f1) ((rd_T23 l1_4 x6_3).f2) t446 _ A26.out).mono ?_
                      rintro e w30 ⟨rfl, hb⟩
                      refine ⟨_, rfl, ?_⟩
                      have n0_ := Aside0.mk (blk_below (g := gb439) (o := .cells #[.int .i64 a0_0, .int .i64 a0_1, .string a0_2, .string a0_3, .slice (some ad444) l0_4.length c0_4] 26 (0, 0)) (by (with_reducible repeat (first | refine blk_drewN ?_ _ | refine blk_drew ?_ | refine blk_alloc ?_ _)); exact BK439.out) hb)
                      have n1_ := Aside0.mk (blk_below (g := gb440) (o := .cells #[.int .i64 a1_0, .int .i64 a1_1, .string a1_2, .string a1_3, .slice (some ad445) l1_4.length c1_4] 26 (0, 0)) (by (with_reducible repeat (first | refine blk_drewN ?_ _ | refine blk_drew ?_ | refine blk_alloc ?_ _)); exact BK440.out) hb)
                      have n2_ := Aside0.mk (below_step (by repeat (first | (with_reducible first | exact HB.out | apply below_alloc | apply pw_below_drewN | apply below_drew1 | refine below_set ?_ GE439.out | refine below_set ?_ GE440.out) | exact HB.out)) hb)
                      clear BK439
                      clear BK440
                      clear HB
                      have BK439 := n0_
                      have BK440 := n1_
                      have HB := n2_
                      clear n0_ n1_ n2_
                      (try clear hb)
                      (try clear hb2)
                      (try clear hk)
                      (try clear hi)
                      refine hK.out _ _ ⟨(blk_cell BK439.out 0).trans rfl, (blk_cell BK439.out 1).trans rfl, (blk_cell BK439.out 2).trans rfl, (blk_cell BK439.out 3).trans rfl, (blk_cell BK439.out 4).trans rfl, (blk_cell BK440.out 0).trans rfl, (blk_cell BK440.out 1).trans rfl, (blk_cell BK440.out 2).trans rfl, (blk_cell BK440.out 3).trans rfl, (blk_cell BK440.out 4).trans rfl, ((HB.out.cell (World.block_lt_of_cell? w _ hw444_0)).trans hw444_0), ((HB.out.cell (World.block_lt_of_cell? w _ hw444_1)).trans hw444_1), ((HB.out.cell (World.block_lt_of_cell? w _ hw444_2)).trans hw444_2), ((HB.out.cell (World.block_lt_of_cell? w _ hw445_0)).trans hw445_0), ((HB.out.cell (World.block_lt_of_cell? w _ hw445_1)).trans hw445_1), ((HB.out.cell (World.block_lt_of_cell? w _ hw445_2)).trans hw445_2)⟩ (fun hHeld => ?_)
                      clear hK K
                      refine norm_ (a' := ?_) ?_ ?_
                      rotate_left
                      · show Act.put _ (some 49) _ = _
                        simp only [Act.put, List.setIfInBounds_toArray, List.set_cons_zero, List.set_cons_succ, i64_w, i32_w]
                        rfl
                      refine pure_ (i := 11) (N := some 5) (v := ?_) (a' := ?_) #[true, true, true, true, true, true, true, true, true, true, true, true] rfl rfl (any_of HT_.out (by kernel_rfl)) (fun _ _ _ h => h) (Or.inl ⟨by rfl, ?_⟩) ?_ ?_
                      rotate_left
                      · intro w'
                        go_simp
                        with_reducible rfl
                      rotate_left
                      · simp only [Act.put, List.setIfInBounds_toArray, List.set_cons_zero, List.set_cons_succ, i64_w, i32_w]
                        rfl
                      refine done_ (done_of HT_.out (by kernel_rfl)) ?_
                      try go_wp2
                      go_roundg k3
                      case measure => have := HJ3.out; have := HJ14.out; have := HK3.out; omega
                      case rel => exact ⟨(t446), (wrap64 (x6_3 + 1)), (by first | rfl | (simp; done) | (simp [*]; done)), (by first | rfl | (simp; done) | (simp [*]; done)), H', ⟨by have := HJ3.out; have := HJ14.out; have := HK3.out; omega⟩, ⟨by (with_reducible repeat (first | refine blk_drewN ?_ _ | refine blk_drew ?_ | refine blk_alloc ?_ _)); exact BK439.out⟩, ⟨by (with_reducible repeat (first | refine blk_drewN ?_ _ | refine blk_drew ?_ | refine blk_alloc ?_ _)); exact BK440.out⟩, ⟨by repeat (first | (with_reducible first | exact HB.out | apply below_alloc | apply pw_below_drewN | apply below_drew1 | refine below_set ?_ GE439.out | refine below_set ?_ GE440.out) | exact HB.out)⟩⟩
                    · rw [if_neg c25] at H
                      exact absurd H (by simp)
                  · rw [if_neg c24] at H
                    exact absurd H (by simp)
                · rw [if_neg c23] at H
                  have c23b0 : decide (x6_3 < (l0_4.length : Int)) = false := decide_eq_false c23
                  clear c23
                  obtain rfl := Option.some.inj H
                  have hnb31 := NB439_440.out
                  have hnc31 := NB440_439.out
                  have hcz32_0 : wr.cell? ⟨gb439, 0, none⟩ = some (.int .i64 a0_0) := (blk_cell BK439.out 0).trans rfl
                  have hcz32_1 : wr.cell? ⟨gb439, 1, none⟩ = some (.int .i64 a0_1) := (blk_cell BK439.out 1).trans rfl
                  have hcz32_2 : wr.cell? ⟨gb439, 2, none⟩ = some (.string a0_2) := (blk_cell BK439.out 2).trans rfl
                  have hcz32_3 : wr.cell? ⟨gb439, 3, none⟩ = some (.string a0_3) := (blk_cell BK439.out 3).trans rfl
                  have hcz32_4 : wr.cell? ⟨gb439, 4, none⟩ = some (.slice A0_4 l0_4.length c0_4) := (blk_cell BK439.out 4).trans rfl
                  have hfz32_0 := blk_frozen BK439.out 0
                  have hfz32_1 := blk_frozen BK439.out 1
                  have hfz32_2 := blk_frozen BK439.out 2
                  have hfz32_3 := blk_frozen BK439.out 3
                  have hfz32_4 := blk_frozen BK439.out 4
                  go_wp2
                  go_ret
                  exact ⟨by first | rfl | (simp [errW_none, errW_some] <;> rfl) | (simp [errW_none, errW_some, bne, show ∀ l_ : List UInt8, (l_ == []) = l_.isEmpty from fun l_ => by cases l_ <;> rfl]; done) | (simp [*, errW_none, errW_some] <;> rfl), by repeat (first | (with_reducible first | exact HB.out | apply below_alloc | apply pw_below_drewN | apply below_drew1 | refine below_set ?_ GE439.out | refine below_set ?_ GE440.out) | exact HB.out)⟩
              · rw [if_neg c22] at H
                have c22b0 : (x5_3 == 0) = false := beq_eq_false_iff_ne.mpr c22
                have c22b1 : (x5_3 != 0) = true := bne_iff_ne.mpr c22
                obtain rfl := Option.some.inj H
                go_wp2
                go_ret
                exact ⟨by first | rfl | (simp [errW_none, errW_some] <;> rfl) | (simp [errW_none, errW_some, bne, show ∀ l_ : List UInt8, (l_ == []) = l_.isEmpty from fun l_ => by cases l_ <;> rfl]; done) | (simp [*, errW_none, errW_some] <;> rfl), by repeat (first | (with_reducible first | exact HB.out | apply below_alloc | apply pw_below_drewN | apply below_drew1 | refine below_set ?_ GE439.out | refine below_set ?_ GE440.out) | exact HB.out)⟩

end Go.Proofs.YtnomgmlfagiffaaDoor.T
