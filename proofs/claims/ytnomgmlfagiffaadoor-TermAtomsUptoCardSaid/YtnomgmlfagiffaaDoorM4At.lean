/- T11; PureCA; T9; PureRM; GFunc; GFv: texts of this claim, laid together. -/
import Derived.Test.YtnomgmlfagiffaaDoorM0At
import Derived.Test.YtnomgmlfagiffaaDoorM3At
import Derived.Test.YtnomgmlfagiffaaDoorM2At
import Derived.Below
import Derived.WalkKit
import Derived.Lib.Walk
import Derived.Deep.LoopGhost
import Derived.Shelf.Abstract
import Derived.Deep.Draws
import Derived.Test.YtnomgmlfagiffaaDoorM1At
-- By a program of this session (wip/tools/myprint.py), out of the translation.
namespace Go.Proofs.YtnomgmlfagiffaaDoor.T
open Go.RowKit Go.Proofs.YtnomgmlfagiffaaDoorW.PrintWords Go.Proofs.YtnomgmlfagiffaaDoorW.PrintLast Go.Proofs.YtnomgmlfagiffaaDoorW.PrintMore
attribute [local go_sem] max2_int min2_int max_two min_two max_three min_three max_four min_four   -- for this text's walks alone
set_option linter.unusedVariables false
set_option linter.unusedSimpArgs false

mutual
def hearsayref02_CompareAtoms.j0 : Nat → Int → Int → Int → ByteArray → ByteArray → List (S23) → Int → Int → ByteArray → ByteArray → List (S23) → Option (Int)
  | 0, _, _, _, _, _, _, _, _, _, _, _ => none
  | k + 1, x5, x440000, x440001, x440002, x440003, x440004, x441000, x441001, x441002, x441003, x441004 => if x5 = 0 then ((hearsayref02_Compare.f k x440000 x440001 x440002 x441000 x441001 x441002).bind fun t443 => (hearsayref02_CompareAtoms.j1 k t443 x440000 x440001 x440002 x440003 x440004 x441000 x441001 x441002 x441003 x441004)) else (hearsayref02_CompareAtoms.j1 k x5 x440000 x440001 x440002 x440003 x440004 x441000 x441001 x441002 x441003 x441004)
def hearsayref02_CompareAtoms.j1 : Nat → Int → Int → Int → ByteArray → ByteArray → List (S23) → Int → Int → ByteArray → ByteArray → List (S23) → Option (Int)
  | 0, _, _, _, _, _, _, _, _, _, _, _ => none
  | k + 1, x5, x440000, x440001, x440002, x440003, x440004, x441000, x441001, x441002, x441003, x441004 => hearsayref02_CompareAtoms.l0 k x5 0 x440000 x440001 x440002 x440003 x440004 x441000 x441001 x441002 x441003 x441004
def hearsayref02_CompareAtoms.l0 : Nat → Int → Int → Int → Int → ByteArray → ByteArray → List (S23) → Int → Int → ByteArray → ByteArray → List (S23) → Option (Int)
  | 0, _, _, _, _, _, _, _, _, _, _, _, _ => none
  | k + 1, x5, x6, x440000, x440001, x440002, x440003, x440004, x441000, x441001, x441002, x441003, x441004 => if x5 = 0 then (if x6 < (x440004.length : Int) then (if 0 ≤ x6 then (if x6 < (x441004.length : Int) then ((hearsayref02_Compare.f k ((rd_T23 x440004 x6).f0) ((rd_T23 x440004 x6).f1) ((rd_T23 x440004 x6).f2) ((rd_T23 x441004 x6).f0) ((rd_T23 x441004 x6).f1) ((rd_T23 x441004 x6).f2)).bind fun t446 => (hearsayref02_CompareAtoms.l0 k t446 (wrap64 (x6 + 1)) x440000 x440001 x440002 x440003 x440004 x441000 x441001 x441002 x441003 x441004)) else (none)) else (none)) else (some x5)) else (some x5)
end
def hearsayref02_CompareAtoms.f (k : Nat) (a0_0 : Int) (a0_1 : Int) (a0_2 : ByteArray) (a0_3 : ByteArray) (l0_4 : List (S23)) (a1_0 : Int) (a1_1 : Int) (a1_2 : ByteArray) (a1_3 : ByteArray) (l1_4 : List (S23)) : Option (Int) := (hearsayref02_Texts.f k a0_3 a1_3).bind fun t441 => (if t441 = 0 then ((hearsayref02_ints.f (l0_4.length : Int) (l1_4.length : Int)).bind fun t442 => (hearsayref02_CompareAtoms.j0 k t442 a0_0 a0_1 a0_2 a0_3 l0_4 a1_0 a1_1 a1_2 a1_3 l1_4)) else (hearsayref02_CompareAtoms.j0 k t441 a0_0 a0_1 a0_2 a0_3 l0_4 a1_0 a1_1 a1_2 a1_3 l1_4))
def hearsayref02_CompareAtoms.T9 : Bool × List (List Nat × List Nat) := (true, [([], []), ([0], [0]), ([], []), ([1, 2], [1, 2]), ([3], [3]), ([], []), ([5], [5]), ([], []), ([6, 7], [6, 7]), ([8], [8]), ([4, 9], [4, 9]), ([10, 10, 0, 1, 2, 3, 4, 5, 6, 7, 8, 9, 10], [10])])
def hearsayref02_CompareAtoms.B9 : List Nat := [0, 1, 0, 7, 15, 0, 32, 0, 224, 480, 1023, 2047]
theorem hearsayref02_CompareAtoms.tab9 : rtab .any (opsOf Tryd.f46 9) = hearsayref02_CompareAtoms.T9 := by kernel_rfl
theorem hearsayref02_CompareAtoms.bits9 : waitsOk hearsayref02_CompareAtoms.T9.2 hearsayref02_CompareAtoms.B9 = true := by kernel_rfl
set_option maxHeartbeats 8000000 in
set_option maxRecDepth 100000 in
theorem hearsayref02_CompareAtoms.calls (k : Nat) (a0_0 : Int) (a0_1 : Int) (a0_2 : ByteArray) (a0_3 : ByteArray) (A0_4 : Option Addr) (c0_4 : Nat) (l0_4 : List (S23)) (a1_0 : Int) (a1_1 : Int) (a1_2 : ByteArray) (a1_3 : ByteArray) (A1_4 : Option Addr) (c1_4 : Nat) (l1_4 : List (S23)) (r : Int) (w : World) (hr0_4 : Kd.C k23 w A0_4 l0_4.length l0_4) (hc0_4 : l0_4.length ≤ c0_4) (hr1_4 : Kd.C k23 w A1_4 l1_4.length l1_4) (hc1_4 : l1_4.length ≤ c1_4) (h : hearsayref02_CompareAtoms.f k a0_0 a0_1 a0_2 a0_3 l0_4 a1_0 a1_1 a1_2 a1_3 l1_4 = some r) :
    Calls Tryd.prog 46 #[.agg #[.int .i64 a0_0, .int .i64 a0_1, .string a0_2, .string a0_3, .slice A0_4 l0_4.length c0_4], .agg #[.int .i64 a1_0, .int .i64 a1_1, .string a1_2, .string a1_3, .slice A1_4 l1_4.length c1_4]] w fun e w' => e = .returned (.int .i64 r) ∧ Below w.heap.size w w' := by
  have hu26 := Tryd.underlying26
  have hu23 := Tryd.underlying23
  have HR0_4 := Aside0.mk hr0_4
  have HC0_4 := Aside0.mk hc0_4
  clear hr0_4 hc0_4
  have HR1_4 := Aside0.mk hr1_4
  have HC1_4 := Aside0.mk hc1_4
  clear hr1_4 hc1_4
  have HB := Aside0.mk (Below.refl w.heap.size w)
  have H : ((hearsayref02_Texts.f k a0_3 a1_3).bind fun t441 => (if t441 = 0 then ((hearsayref02_ints.f (l0_4.length : Int) (l1_4.length : Int)).bind fun t442 => (hearsayref02_CompareAtoms.j0 k t442 a0_0 a0_1 a0_2 a0_3 l0_4 a1_0 a1_1 a1_2 a1_3 l1_4)) else (hearsayref02_CompareAtoms.j0 k t441 a0_0 a0_1 a0_2 a0_3 l0_4 a1_0 a1_1 a1_2 a1_3 l1_4))) = some r := h
  clear h
  replace H := Option.bind_eq_some_iff.mp H
  obtain ⟨t441, A30, H⟩ := H
  replace H : (if t441 = 0 then ((hearsayref02_ints.f (l0_4.length : Int) (l1_4.length : Int)).bind fun t442 => (hearsayref02_CompareAtoms.j0 k t442 a0_0 a0_1 a0_2 a0_3 l0_4 a1_0 a1_1 a1_2 a1_3 l1_4)) else (hearsayref02_CompareAtoms.j0 k t441 a0_0 a0_1 a0_2 a0_3 l0_4 a1_0 a1_1 a1_2 a1_3 l1_4)) = some r := H
  have A3 := Aside0.mk A30
  clear A30
  have HC4 := Aside0.mk H
  clear H
  go_enter Tryd.func46, Tryd.ntmps46
  go_upto_if 13 with (first | ((with_reducible refine gate_dst (N := 2) rfl ?_); (try (refine gate_guard (by rfl) ?_; dsimp only)); refine box_event ?hg (N := 2) ?hd (cs := #[.int .i64 a0_0, .int .i64 a0_1, .string a0_2, .string a0_3, .slice A0_4 l0_4.length c0_4]) (t := 26) ?hr ?_; (case hd => rfl); (case hg => rfl); (case hr => first | (go_simp; done) | (go_simp; rfl)); intro gb439 hg w5 hbox hb; have n0_ := Aside0.mk (below_step (by repeat (first | (with_reducible first | exact HB.out | apply below_alloc | apply pw_below_drewN | apply below_drew1) | exact HB.out)) hb); have n1_ := Aside0.mk (hbox); have n2_ := Aside0.mk ((by rw [hg]; exact (below_size (by repeat (first | (with_reducible first | exact HB.out | apply below_alloc | apply pw_below_drewN | apply below_drew1) | exact HB.out))) : w.heap.size ≤ gb439)); have n3_ := Aside0.mk ((by rw [hg]; exact (below_size (by repeat (first | (with_reducible first | exact HB.out | apply below_alloc | apply pw_below_drewN | apply below_drew1) | exact HB.out))) : w.heap.size ≤ gb439)); clear HB; have HB := n0_; have BK439 := n1_; have GW439 := n2_; have GE439 := n3_; clear n0_ n1_ n2_ n3_; clear hb hbox hg) | ((with_reducible refine gate_dst (N := 3) rfl ?_); (try (refine gate_guard (by rfl) ?_; dsimp only)); refine box_event ?hg (N := 3) ?hd (cs := #[.int .i64 a1_0, .int .i64 a1_1, .string a1_2, .string a1_3, .slice A1_4 l1_4.length c1_4]) (t := 26) ?hr ?_; (case hd => rfl); (case hg => rfl); (case hr => first | (go_simp; done) | (go_simp; rfl)); intro gb440 hg w6 hbox hb; have n0_ := Aside0.mk (blk_below (g := gb439) (o := .cells #[.int .i64 a0_0, .int .i64 a0_1, .string a0_2, .string a0_3, .slice A0_4 l0_4.length c0_4] 26 (0, 0)) (by (with_reducible repeat (first | refine blk_drewN ?_ _ | refine blk_drew ?_ | refine blk_alloc ?_ _)); exact BK439.out) hb); have n1_ := Aside0.mk (below_step (by repeat (first | (with_reducible first | exact HB.out | apply below_alloc | apply pw_below_drewN | apply below_drew1 | refine below_set ?_ GE439.out) | exact HB.out)) hb); have n2_ := Aside0.mk (hbox); have n3_ := Aside0.mk ((by rw [hg]; exact (below_size (by repeat (first | (with_reducible first | exact HB.out | apply below_alloc | apply pw_below_drewN | apply below_drew1 | refine below_set ?_ GE439.out) | exact HB.out))) : w.heap.size ≤ gb440)); have n4_ := Aside0.mk ((by rw [hg]; exact (below_size (by repeat (first | (with_reducible first | exact HB.out | apply below_alloc | apply pw_below_drewN | apply below_drew1 | refine below_set ?_ GE439.out) | exact HB.out))) : w.heap.size ≤ gb440)); have n5_ := Aside0.mk ((by rw [hg]; exact Nat.ne_of_lt (blk_lt (g := gb439) (o := .cells #[.int .i64 a0_0, .int .i64 a0_1, .string a0_2, .string a0_3, .slice A0_4 l0_4.length c0_4] 26 (0, 0)) (by (with_reducible repeat (first | refine blk_drewN ?_ _ | refine blk_drew ?_ | refine blk_alloc ?_ _)); exact BK439.out)) : gb439 ≠ gb440)); have n6_ := Aside0.mk ((by rw [hg]; exact Nat.ne_of_gt (blk_lt (g := gb439) (o := .cells #[.int .i64 a0_0, .int .i64 a0_1, .string a0_2, .string a0_3, .slice A0_4 l0_4.length c0_4] 26 (0, 0)) (by (with_reducible repeat (first | refine blk_drewN ?_ _ | refine blk_drew ?_ | refine blk_alloc ?_ _)); exact BK439.out)) : gb440 ≠ gb439)); clear BK439; clear HB; have BK439 := n0_; have HB := n1_; have BK440 := n2_; have GW440 := n3_; have GE440 := n4_; have NB439_440 := n5_; have NB440_439 := n6_; clear n0_ n1_ n2_ n3_ n4_ n5_ n6_; clear hb hbox hg; have hnb7 := NB439_440.out; have hnc7 := NB440_439.out; have hcz8_0 : w6.cell? ⟨gb439, 0, none⟩ = some (.int .i64 a0_0) := (blk_cell BK439.out 0).trans rfl; have hcz8_1 : w6.cell? ⟨gb439, 1, none⟩ = some (.int .i64 a0_1) := (blk_cell BK439.out 1).trans rfl; have hcz8_2 : w6.cell? ⟨gb439, 2, none⟩ = some (.string a0_2) := (blk_cell BK439.out 2).trans rfl; have hcz8_3 : w6.cell? ⟨gb439, 3, none⟩ = some (.string a0_3) := (blk_cell BK439.out 3).trans rfl; have hcz8_4 : w6.cell? ⟨gb439, 4, none⟩ = some (.slice A0_4 l0_4.length c0_4) := (blk_cell BK439.out 4).trans rfl; have hfz8_0 := blk_frozen BK439.out 0; have hfz8_1 := blk_frozen BK439.out 1; have hfz8_2 := blk_frozen BK439.out 2; have hfz8_3 := blk_frozen BK439.out 3; have hfz8_4 := blk_frozen BK439.out 4; have hcz9_0 : w6.cell? ⟨gb440, 0, none⟩ = some (.int .i64 a1_0) := (blk_cell BK440.out 0).trans rfl; have hcz9_1 : w6.cell? ⟨gb440, 1, none⟩ = some (.int .i64 a1_1) := (blk_cell BK440.out 1).trans rfl; have hcz9_2 : w6.cell? ⟨gb440, 2, none⟩ = some (.string a1_2) := (blk_cell BK440.out 2).trans rfl; have hcz9_3 : w6.cell? ⟨gb440, 3, none⟩ = some (.string a1_3) := (blk_cell BK440.out 3).trans rfl; have hcz9_4 : w6.cell? ⟨gb440, 4, none⟩ = some (.slice A1_4 l1_4.length c1_4) := (blk_cell BK440.out 4).trans rfl; have hfz9_0 := blk_frozen BK440.out 0; have hfz9_1 := blk_frozen BK440.out 1; have hfz9_2 := blk_frozen BK440.out 2; have hfz9_3 := blk_frozen BK440.out 3; have hfz9_4 := blk_frozen BK440.out 4) | ((with_reducible refine gate_callee (f := 78) rfl ?_); refine goesL_ (some 11) rfl rfl Tryd.func78 (by kernel_rfl) rfl #[.string a0_3, .string a1_3] rfl (by (try simp only [List.map_toArray, List.map_cons, List.map_nil]); first | done | rfl | (simp only [List.length_drop, List.length_take]; rfl)) ?_; (with_reducible refine (hearsayref02_Texts.calls k a0_3 a1_3 t441 _ A3.out).mono ?_); rintro e w' ⟨rfl, ⟨nd, rfl⟩⟩; refine ⟨_, rfl, ?_⟩))
  (try simp only [Act.put, List.setIfInBounds_toArray, List.set_cons_zero, List.set_cons_succ])
  go_cut [5] (fun v5 wc => ∃ (kq : Nat) (x5_3 : Int), v5 = .int .i64 x5_3 ∧ Aside0 (hearsayref02_CompareAtoms.j0 kq x5_3 a0_0 a0_1 a0_2 a0_3 l0_4 a1_0 a1_1 a1_2 a1_3 l1_4 = some r) ∧ Aside0 (kq ≤ k) ∧ Aside0 (wc.heap[gb439]? = some (.cells #[.int .i64 a0_0, .int .i64 a0_1, .string a0_2, .string a0_3, (.slice A0_4 l0_4.length c0_4)] 26 (0, 0))) ∧ Aside0 (wc.heap[gb440]? = some (.cells #[.int .i64 a1_0, .int .i64 a1_1, .string a1_2, .string a1_3, (.slice A1_4 l1_4.length c1_4)] 26 (0, 0))) ∧ Aside0 (Below w.heap.size w wc))
  case first =>
    have H := HC4.out
    clear HC4
    by_cases c10 : t441 = 0
    · rw [if_pos c10] at H
      have c10b0 : (t441 == 0) = true := beq_iff_eq.mpr c10
      have c10b1 : (t441 != 0) = false := bne_eq_false_iff_eq.mpr c10
      clear c10
      (first | rw [c10b0] | (simp only [i64_w, i32_w]; rw [c10b0]) | skip)
      replace H := Option.bind_eq_some_iff.mp H
      obtain ⟨t442, A110, H⟩ := H
      replace H : (hearsayref02_CompareAtoms.j0 k t442 a0_0 a0_1 a0_2 a0_3 l0_4 a1_0 a1_1 a1_2 a1_3 l1_4) = some r := H
      have A11 := Aside0.mk A110
      clear A110
      have H' := Aside0.mk H
      clear H
      have hnb12 := NB439_440.out
      have hnc12 := NB440_439.out
      have hcz13_0 : w6.cell? ⟨gb439, 0, none⟩ = some (.int .i64 a0_0) := (blk_cell BK439.out 0).trans rfl
      have hcz13_1 : w6.cell? ⟨gb439, 1, none⟩ = some (.int .i64 a0_1) := (blk_cell BK439.out 1).trans rfl
      have hcz13_2 : w6.cell? ⟨gb439, 2, none⟩ = some (.string a0_2) := (blk_cell BK439.out 2).trans rfl
      have hcz13_3 : w6.cell? ⟨gb439, 3, none⟩ = some (.string a0_3) := (blk_cell BK439.out 3).trans rfl
      have hcz13_4 : w6.cell? ⟨gb439, 4, none⟩ = some (.slice A0_4 l0_4.length c0_4) := (blk_cell BK439.out 4).trans rfl
      have hfz13_0 := blk_frozen BK439.out 0
      have hfz13_1 := blk_frozen BK439.out 1
      have hfz13_2 := blk_frozen BK439.out 2
      have hfz13_3 := blk_frozen BK439.out 3
      have hfz13_4 := blk_frozen BK439.out 4
      have hcz14_0 : w6.cell? ⟨gb440, 0, none⟩ = some (.int .i64 a1_0) := (blk_cell BK440.out 0).trans rfl
      have hcz14_1 : w6.cell? ⟨gb440, 1, none⟩ = some (.int .i64 a1_1) := (blk_cell BK440.out 1).trans rfl
      have hcz14_2 : w6.cell? ⟨gb440, 2, none⟩ = some (.string a1_2) := (blk_cell BK440.out 2).trans rfl
      have hcz14_3 : w6.cell? ⟨gb440, 3, none⟩ = some (.string a1_3) := (blk_cell BK440.out 3).trans rfl
      have hcz14_4 : w6.cell? ⟨gb440, 4, none⟩ = some (.slice A1_4 l1_4.length c1_4) := (blk_cell BK440.out 4).trans rfl
      have hfz14_0 := blk_frozen BK440.out 0
      have hfz14_1 := blk_frozen BK440.out 1
      have hfz14_2 := blk_frozen BK440.out 2
      have hfz14_3 := blk_frozen BK440.out 3
      have hfz14_4 := blk_frozen BK440.out 4
      go_wp2_with (first | ((with_reducible refine gate_callee (f := 79) rfl ?_); refine goesL_ (some 20) rfl rfl Tryd.func79 (by kernel_rfl) rfl #[.int .i64 (l0_4.length : Int), .int .i64 (l1_4.length : Int)] rfl (by (try simp only [List.map_toArray, List.map_cons, List.map_nil]); first | done | rfl | (simp only [List.length_drop, List.length_take]; rfl)) ?_; (with_reducible refine (hearsayref02_ints.calls (l0_4.length : Int) (l1_4.length : Int) t442 _ A11.out).mono ?_); rintro e w' ⟨rfl, ⟨nd, rfl⟩⟩; refine ⟨_, rfl, ?_⟩))
      go_meet
      case rel => exact ⟨_, (t442), (by first | rfl | (simp; done) | (simp [*]; done)), H', ⟨by first | omega | exact Nat.le_refl _⟩, ⟨by (with_reducible repeat (first | refine blk_drewN ?_ _ | refine blk_drew ?_ | refine blk_alloc ?_ _)); exact BK439.out⟩, ⟨by (with_reducible repeat (first | refine blk_drewN ?_ _ | refine blk_drew ?_ | refine blk_alloc ?_ _)); exact BK440.out⟩, ⟨by repeat (first | (with_reducible first | exact HB.out | apply below_alloc | apply pw_below_drewN | apply below_drew1 | refine below_set ?_ GE439.out | refine below_set ?_ GE440.out) | exact HB.out)⟩⟩
    · rw [if_neg c10] at H
      have c10b0 : (t441 == 0) = false := beq_eq_false_iff_ne.mpr c10
      have c10b1 : (t441 != 0) = true := bne_iff_ne.mpr c10
      (first | rw [c10b0] | (simp only [i64_w, i32_w]; rw [c10b0]) | skip)
      have H' := Aside0.mk H
      clear H
      go_wp2
      go_meet
      case rel => exact ⟨_, (t441), (by first | rfl | (simp; done) | (simp [*]; done)), H', ⟨by first | omega | exact Nat.le_refl _⟩, ⟨by (with_reducible repeat (first | refine blk_drewN ?_ _ | refine blk_drew ?_ | refine blk_alloc ?_ _)); exact BK439.out⟩, ⟨by (with_reducible repeat (first | refine blk_drewN ?_ _ | refine blk_drew ?_ | refine blk_alloc ?_ _)); exact BK440.out⟩, ⟨by repeat (first | (with_reducible first | exact HB.out | apply below_alloc | apply pw_below_drewN | apply below_drew1 | refine below_set ?_ GE439.out | refine below_set ?_ GE440.out) | exact HB.out)⟩⟩
  case rest =>
    clear HC4
    try clear c1
    try clear p2
    try clear c4
    try clear c7
    try clear c10
    try clear c10b0
    try clear c10b1
    try clear c12
    try clear hcz13_0
    try clear hcz13_1
    try clear hcz13_2
    try clear hcz13_3
    try clear hcz13_4
    try clear hcz14_0
    try clear hcz14_1
    try clear hcz14_2
    try clear hcz14_3
    try clear hcz14_4
    try clear hcz8_0
    try clear hcz8_1
    try clear hcz8_2
    try clear hcz8_3
    try clear hcz8_4
    try clear hcz9_0
    try clear hcz9_1
    try clear hcz9_2
    try clear hcz9_3
    try clear hcz9_4
    try clear hfz13_0
    try clear hfz13_1
    try clear hfz13_2
    try clear hfz13_3
    try clear hfz13_4
    try clear hfz14_0
    try clear hfz14_1
    try clear hfz14_2
    try clear hfz14_3
    try clear hfz14_4
    try clear hfz8_0
    try clear hfz8_1
    try clear hfz8_2
    try clear hfz8_3
    try clear hfz8_4
    try clear hfz9_0
    try clear hfz9_1
    try clear hfz9_2
    try clear hfz9_3
    try clear hfz9_4
    obtain ⟨kq, x5_3, rfl, HA, HJ3, BK439, BK440, HB⟩ := hcut
    cases kq with
    | zero => exact absurd HA.out (by simp [hearsayref02_CompareAtoms.j0])
    | succ kj3 =>
      have H := HA.out
      clear HA
      simp only [hearsayref02_CompareAtoms.j0] at H
      have HC15 := Aside0.mk H
      clear H
      go_upto_if 22 with (fail)
      go_cut [5] (fun v5 wc => ∃ (kq : Nat) (x5_14 : Int), v5 = .int .i64 x5_14 ∧ Aside0 (hearsayref02_CompareAtoms.j1 kq x5_14 a0_0 a0_1 a0_2 a0_3 l0_4 a1_0 a1_1 a1_2 a1_3 l1_4 = some r) ∧ Aside0 (kq ≤ kj3) ∧ Aside0 (wc.heap[gb439]? = some (.cells #[.int .i64 a0_0, .int .i64 a0_1, .string a0_2, .string a0_3, (.slice A0_4 l0_4.length c0_4)] 26 (0, 0))) ∧ Aside0 (wc.heap[gb440]? = some (.cells #[.int .i64 a1_0, .int .i64 a1_1, .string a1_2, .string a1_3, (.slice A1_4 l1_4.length c1_4)] 26 (0, 0))) ∧ Aside0 (Below w.heap.size w wc))
      case first =>
        have H := HC15.out
        clear HC15
        by_cases c16 : x5_3 = 0
        · rw [if_pos c16] at H
          have c16b0 : (x5_3 == 0) = true := beq_iff_eq.mpr c16
          have c16b1 : (x5_3 != 0) = false := bne_eq_false_iff_eq.mpr c16
          clear c16
          (first | rw [c16b0] | (simp only [i64_w, i32_w]; rw [c16b0]) | skip)
          replace H := Option.bind_eq_some_iff.mp H
          obtain ⟨t443, A170, H⟩ := H
          replace H : (hearsayref02_CompareAtoms.j1 kj3 t443 a0_0 a0_1 a0_2 a0_3 l0_4 a1_0 a1_1 a1_2 a1_3 l1_4) = some r := H
          have A17 := Aside0.mk A170
          clear A170
          have H' := Aside0.mk H
          clear H
          have hnb18 := NB439_440.out
          have hnc18 := NB440_439.out
          have hcz19_0 : wc.cell? ⟨gb439, 0, none⟩ = some (.int .i64 a0_0) := (blk_cell BK439.out 0).trans rfl
          have hcz19_1 : wc.cell? ⟨gb439, 1, none⟩ = some (.int .i64 a0_1) := (blk_cell BK439.out 1).trans rfl
          have hcz19_2 : wc.cell? ⟨gb439, 2, none⟩ = some (.string a0_2) := (blk_cell BK439.out 2).trans rfl
          have hcz19_3 : wc.cell? ⟨gb439, 3, none⟩ = some (.string a0_3) := (blk_cell BK439.out 3).trans rfl
          have hcz19_4 : wc.cell? ⟨gb439, 4, none⟩ = some (.slice A0_4 l0_4.length c0_4) := (blk_cell BK439.out 4).trans rfl
          have hfz19_0 := blk_frozen BK439.out 0
          have hfz19_1 := blk_frozen BK439.out 1
          have hfz19_2 := blk_frozen BK439.out 2
          have hfz19_3 := blk_frozen BK439.out 3
          have hfz19_4 := blk_frozen BK439.out 4
          have hcz20_0 : wc.cell? ⟨gb440, 0, none⟩ = some (.int .i64 a1_0) := (blk_cell BK440.out 0).trans rfl
          have hcz20_1 : wc.cell? ⟨gb440, 1, none⟩ = some (.int .i64 a1_1) := (blk_cell BK440.out 1).trans rfl
          have hcz20_2 : wc.cell? ⟨gb440, 2, none⟩ = some (.string a1_2) := (blk_cell BK440.out 2).trans rfl
          have hcz20_3 : wc.cell? ⟨gb440, 3, none⟩ = some (.string a1_3) := (blk_cell BK440.out 3).trans rfl
          have hcz20_4 : wc.cell? ⟨gb440, 4, none⟩ = some (.slice A1_4 l1_4.length c1_4) := (blk_cell BK440.out 4).trans rfl
          have hfz20_0 := blk_frozen BK440.out 0
          have hfz20_1 := blk_frozen BK440.out 1
          have hfz20_2 := blk_frozen BK440.out 2
          have hfz20_3 := blk_frozen BK440.out 3
          have hfz20_4 := blk_frozen BK440.out 4
          go_wp2_with (first | ((with_reducible refine gate_callee (f := 68) rfl ?_); refine goesL_ (some 27) rfl rfl Tryd.func68 (by kernel_rfl) rfl #[.agg #[.int .i64 a0_0, .int .i64 a0_1, .string a0_2], .agg #[.int .i64 a1_0, .int .i64 a1_1, .string a1_2]] rfl (by (try simp only [List.map_toArray, List.map_cons, List.map_nil]); first | done | rfl | (simp only [List.length_drop, List.length_take]; rfl)) ?_; (with_reducible refine (hearsayref02_Compare.calls kj3 a0_0 a0_1 a0_2 a1_0 a1_1 a1_2 t443 _ A17.out).mono ?_); rintro e w21 ⟨rfl, hb⟩; refine ⟨_, rfl, ?_⟩; have n0_ := Aside0.mk (blk_below (g := gb439) (o := .cells #[.int .i64 a0_0, .int .i64 a0_1, .string a0_2, .string a0_3, .slice A0_4 l0_4.length c0_4] 26 (0, 0)) (by (with_reducible repeat (first | refine blk_drewN ?_ _ | refine blk_drew ?_ | refine blk_alloc ?_ _)); exact BK439.out) hb); have n1_ := Aside0.mk (blk_below (g := gb440) (o := .cells #[.int .i64 a1_0, .int .i64 a1_1, .string a1_2, .string a1_3, .slice A1_4 l1_4.length c1_4] 26 (0, 0)) (by (with_reducible repeat (first | refine blk_drewN ?_ _ | refine blk_drew ?_ | refine blk_alloc ?_ _)); exact BK440.out) hb); have n2_ := Aside0.mk (below_step (by repeat (first | (with_reducible first | exact HB.out | apply below_alloc | apply pw_below_drewN | apply below_drew1 | refine below_set ?_ GE439.out | refine below_set ?_ GE440.out) | exact HB.out)) hb); clear BK439; clear BK440; clear HB; have BK439 := n0_; have BK440 := n1_; have HB := n2_; clear n0_ n1_ n2_; (try clear hb); (try clear hb2); (try clear hk); (try clear hi)))
          go_meet
          case rel => exact ⟨_, (t443), (by first | rfl | (simp; done) | (simp [*]; done)), H', ⟨by have := HJ3.out; first | omega | exact Nat.le_refl _⟩, ⟨by (with_reducible repeat (first | refine blk_drewN ?_ _ | refine blk_drew ?_ | refine blk_alloc ?_ _)); exact BK439.out⟩, ⟨by (with_reducible repeat (first | refine blk_drewN ?_ _ | refine blk_drew ?_ | refine blk_alloc ?_ _)); exact BK440.out⟩, ⟨by repeat (first | (with_reducible first | exact HB.out | apply below_alloc | apply pw_below_drewN | apply below_drew1 | refine below_set ?_ GE439.out | refine below_set ?_ GE440.out) | exact HB.out)⟩⟩
        · rw [if_neg c16] at H
          have c16b0 : (x5_3 == 0) = false := beq_eq_false_iff_ne.mpr c16
          have c16b1 : (x5_3 != 0) = true := bne_iff_ne.mpr c16
          (first | rw [c16b0] | (simp only [i64_w, i32_w]; rw [c16b0]) | skip)
          have H' := Aside0.mk H
          clear H
          go_wp2
          go_meet
          case rel => exact ⟨_, (x5_3), (by first | rfl | (simp; done) | (simp [*]; done)), H', ⟨by have := HJ3.out; first | omega | exact Nat.le_refl _⟩, ⟨by (with_reducible repeat (first | refine blk_drewN ?_ _ | refine blk_drew ?_ | refine blk_alloc ?_ _)); exact BK439.out⟩, ⟨by (with_reducible repeat (first | refine blk_drewN ?_ _ | refine blk_drew ?_ | refine blk_alloc ?_ _)); exact BK440.out⟩, ⟨by repeat (first | (with_reducible first | exact HB.out | apply below_alloc | apply pw_below_drewN | apply below_drew1 | refine below_set ?_ GE439.out | refine below_set ?_ GE440.out) | exact HB.out)⟩⟩
      case rest =>
        clear HC15
        try clear c1
        try clear p2
        try clear c4
        try clear c6
        try clear c7
        try clear c10
        try clear c10b0
        try clear c10b1
        try clear c12
        try clear c16
        try clear c16b0
        try clear c16b1
        try clear c18
        try clear hcz13_0
        try clear hcz13_1
        try clear hcz13_2
        try clear hcz13_3
        try clear hcz13_4
        try clear hcz14_0
        try clear hcz14_1
        try clear hcz14_2
        try clear hcz14_3
        try clear hcz14_4
        try clear hcz19_0
        try clear hcz19_1
        try clear hcz19_2
        try clear hcz19_3
        try clear hcz19_4
        try clear hcz20_0
        try clear hcz20_1
        try clear hcz20_2
        try clear hcz20_3
        try clear hcz20_4
        try clear hcz8_0
        try clear hcz8_1
        try clear hcz8_2
        try clear hcz8_3
        try clear hcz8_4
        try clear hcz9_0
        try clear hcz9_1
        try clear hcz9_2
        try clear hcz9_3
        try clear hcz9_4
        try clear hfz13_0
        try clear hfz13_1
        try clear hfz13_2
        try clear hfz13_3
        try clear hfz13_4
        try clear hfz14_0
        try clear hfz14_1
        try clear hfz14_2
        try clear hfz14_3
        try clear hfz14_4
        try clear hfz19_0
        try clear hfz19_1
        try clear hfz19_2
        try clear hfz19_3
        try clear hfz19_4
        try clear hfz20_0
        try clear hfz20_1
        try clear hfz20_2
        try clear hfz20_3
        try clear hfz20_4
        try clear hfz8_0
        try clear hfz8_1
        try clear hfz8_2
        try clear hfz8_3
        try clear hfz8_4
        try clear hfz9_0
        try clear hfz9_1
        try clear hfz9_2
        try clear hfz9_3
        try clear hfz9_4
        try clear p2
        obtain ⟨kq, x5_14, rfl, HA, HJ14, BK439, BK440, HB⟩ := hcut
        cases kq with
        | zero => exact absurd HA.out (by simp [hearsayref02_CompareAtoms.j1])
        | succ kj14 =>
          have H := HA.out
          clear HA
          simp only [hearsayref02_CompareAtoms.j1] at H
          have H' := Aside0.mk H
          clear H
          go_wp2
          go_loopg [5, 6] kj14 (fun kq v5 v6 w' => ∃ (x5_3 : Int) (x6_3 : Int), v5 = .int .i64 x5_3 ∧ v6 = .int .i64 x6_3 ∧ Aside0 (hearsayref02_CompareAtoms.l0 kq x5_3 x6_3 a0_0 a0_1 a0_2 a0_3 l0_4 a1_0 a1_1 a1_2 a1_3 l1_4 = some r) ∧ Aside0 (kq ≤ kj14) ∧ Aside0 (w'.heap[gb439]? = some (.cells #[.int .i64 a0_0, .int .i64 a0_1, .string a0_2, .string a0_3, (.slice A0_4 l0_4.length c0_4)] 26 (0, 0))) ∧ Aside0 (w'.heap[gb440]? = some (.cells #[.int .i64 a1_0, .int .i64 a1_1, .string a1_2, .string a1_3, (.slice A1_4 l1_4.length c1_4)] 26 (0, 0))) ∧ Aside0 (Below w.heap.size w w'))
          case atStart => exact ⟨(x5_14), (0), (by first | rfl | (simp; done) | (simp [*]; done)), (by first | rfl | (simp; done) | (simp [*]; done)), H', ⟨Nat.le_refl _⟩, ⟨by (with_reducible repeat (first | refine blk_drewN ?_ _ | refine blk_drew ?_ | refine blk_alloc ?_ _)); exact BK439.out⟩, ⟨by (with_reducible repeat (first | refine blk_drewN ?_ _ | refine blk_drew ?_ | refine blk_alloc ?_ _)); exact BK440.out⟩, ⟨by repeat (first | (with_reducible first | exact HB.out | apply below_alloc | apply pw_below_drewN | apply below_drew1 | refine below_set ?_ GE439.out | refine below_set ?_ GE440.out) | exact HB.out)⟩⟩
          case round =>
            clear H'
            try clear c1
            try clear p2
            try clear c4
            try clear c6
            try clear c7
            try clear c10
            try clear c10b0
            try clear c10b1
            try clear c12
            try clear c16
            try clear c16b0
            try clear c16b1
            try clear c18
            try clear hcz13_0
            try clear hcz13_1
            try clear hcz13_2
            try clear hcz13_3
            try clear hcz13_4
            try clear hcz14_0
            try clear hcz14_1
            try clear hcz14_2
            try clear hcz14_3
            try clear hcz14_4
            try clear hcz19_0
            try clear hcz19_1
            try clear hcz19_2
            try clear hcz19_3
            try clear hcz19_4
            try clear hcz20_0
            try clear hcz20_1
            try clear hcz20_2
            try clear hcz20_3
            try clear hcz20_4
            try clear hcz8_0
            try clear hcz8_1
            try clear hcz8_2
            try clear hcz8_3
            try clear hcz8_4
            try clear hcz9_0
            try clear hcz9_1
            try clear hcz9_2
            try clear hcz9_3
            try clear hcz9_4
            try clear hfz13_0
            try clear hfz13_1
            try clear hfz13_2
            try clear hfz13_3
            try clear hfz13_4
            try clear hfz14_0
            try clear hfz14_1
            try clear hfz14_2
            try clear hfz14_3
            try clear hfz14_4
            try clear hfz19_0
            try clear hfz19_1
            try clear hfz19_2
            try clear hfz19_3
            try clear hfz19_4
            try clear hfz20_0
            try clear hfz20_1
            try clear hfz20_2
            try clear hfz20_3
            try clear hfz20_4
            try clear hfz8_0
            try clear hfz8_1
            try clear hfz8_2
            try clear hfz8_3
            try clear hfz8_4
            try clear hfz9_0
            try clear hfz9_1
            try clear hfz9_2
            try clear hfz9_3
            try clear hfz9_4
            try clear p2
            obtain ⟨x5_3, x6_3, rfl, rfl, HA, HK3, BK439, BK440, HB⟩ := hrel
            cases gk with
            | zero => exact absurd HA.out (by simp [hearsayref02_CompareAtoms.l0])
            | succ k3 =>
              have H := HA.out
              clear HA
              simp only [hearsayref02_CompareAtoms.l0] at H
              by_cases c22 : x5_3 = 0
              · rw [if_pos c22] at H
                have c22b0 : (x5_3 == 0) = true := beq_iff_eq.mpr c22
                have c22b1 : (x5_3 != 0) = false := bne_eq_false_iff_eq.mpr c22
                clear c22
                by_cases c23 : x6_3 < (l0_4.length : Int)
                · rw [if_pos c23] at H
                  have c23b0 : decide (x6_3 < (l0_4.length : Int)) = true := decide_eq_true c23
                  clear c23
                  by_cases c24 : 0 ≤ x6_3
                  · rw [if_pos c24] at H
                    have c24b0 : decide (0 ≤ x6_3) = true := decide_eq_true c24
                    clear c24
                    by_cases c25 : x6_3 < (l1_4.length : Int)
                    · rw [if_pos c25] at H
                      have c25b0 : decide (x6_3 < (l1_4.length : Int)) = true := decide_eq_true c25
                      clear c25
                      replace H := Option.bind_eq_some_iff.mp H
                      obtain ⟨t446, A260, H⟩ := H
                      replace H : (hearsayref02_CompareAtoms.l0 k3 t446 (wrap64 (x6_3 + 1)) a0_0 a0_1 a0_2 a0_3 l0_4 a1_0 a1_1 a1_2 a1_3 l1_4) = some r := H
                      have A26 := Aside0.mk A260
                      clear A260
                      have H' := Aside0.mk H
                      clear H
                      have hnb27 := NB439_440.out
                      have hnc27 := NB440_439.out
                      have hcz28_0 : wr.cell? ⟨gb439, 0, none⟩ = some (.int .i64 a0_0) := (blk_cell BK439.out 0).trans rfl
                      have hcz28_1 : wr.cell? ⟨gb439, 1, none⟩ = some (.int .i64 a0_1) := (blk_cell BK439.out 1).trans rfl
                      have hcz28_2 : wr.cell? ⟨gb439, 2, none⟩ = some (.string a0_2) := (blk_cell BK439.out 2).trans rfl
                      have hcz28_3 : wr.cell? ⟨gb439, 3, none⟩ = some (.string a0_3) := (blk_cell BK439.out 3).trans rfl
                      have hcz28_4 : wr.cell? ⟨gb439, 4, none⟩ = some (.slice A0_4 l0_4.length c0_4) := (blk_cell BK439.out 4).trans rfl
                      have hfz28_0 := blk_frozen BK439.out 0
                      have hfz28_1 := blk_frozen BK439.out 1
                      have hfz28_2 := blk_frozen BK439.out 2
                      have hfz28_3 := blk_frozen BK439.out 3
                      have hfz28_4 := blk_frozen BK439.out 4
                      try go_wp2
                      have n0_ := Aside0.mk (blk_drew BK439.out)
                      have n1_ := Aside0.mk (blk_drew BK440.out)
                      have n2_ := Aside0.mk (below_drew1 HB.out)
                      clear BK439
                      clear BK440
                      clear HB
                      have BK439 := n0_
                      have BK440 := n1_
                      have HB := n2_
                      clear n0_ n1_ n2_
                      have p444 : 0 ≤ (x6_3 : Int) := of_decide_eq_true (by first | (with_reducible assumption) | assumption)
                      have q444 : x6_3 < (l0_4.length : Int) := of_decide_eq_true (by first | (with_reducible assumption) | assumption)
                      obtain ⟨ad444, e444, hx444_0, hx444_1, hx444_2⟩ := at_T23 HR0_4.out x6_3 p444 q444
                      have hw444_2 := hx444_2
                      have hw444_1 := hx444_1
                      have hw444_0 := hx444_0
                      cases e444
                      replace hx444_0 := (HB.out.cell (World.block_lt_of_cell? w _ hx444_0)).trans hx444_0
                      replace hx444_1 := (HB.out.cell (World.block_lt_of_cell? w _ hx444_1)).trans hx444_1
                      replace hx444_2 := (HB.out.cell (World.block_lt_of_cell? w _ hx444_2)).trans hx444_2
                      replace p444 := eq_true p444
                      replace q444 := eq_true q444
                      have p445 : 0 ≤ (x6_3 : Int) := of_decide_eq_true (by first | (with_reducible assumption) | assumption)
                      have q445 : x6_3 < (l1_4.length : Int) := of_decide_eq_true (by first | (with_reducible assumption) | assumption)
                      obtain ⟨ad445, e445, hx445_0, hx445_1, hx445_2⟩ := at_T23 HR1_4.out x6_3 p445 q445
                      have hw445_2 := hx445_2
                      have hw445_1 := hx445_1
                      have hw445_0 := hx445_0
                      cases e445
                      replace hx445_0 := (HB.out.cell (World.block_lt_of_cell? w _ hx445_0)).trans hx445_0
                      replace hx445_1 := (HB.out.cell (World.block_lt_of_cell? w _ hx445_1)).trans hx445_1
                      replace hx445_2 := (HB.out.cell (World.block_lt_of_cell? w _ hx445_2)).trans hx445_2
                      replace p445 := eq_true p445
                      replace q445 := eq_true q445
                      refine start_ (n := 12) (S := fun w' => w'.cell? ⟨gb439, 0, none⟩ = some (.int .i64 a0_0) ∧ w'.cell? ⟨gb439, 1, none⟩ = some (.int .i64 a0_1) ∧ w'.cell? ⟨gb439, 2, none⟩ = some (.string a0_2) ∧ w'.cell? ⟨gb439, 3, none⟩ = some (.string a0_3) ∧ w'.cell? ⟨gb439, 4, none⟩ = some (.slice (some ad444) l0_4.length c0_4) ∧ w'.cell? ⟨gb440, 0, none⟩ = some (.int .i64 a1_0) ∧ w'.cell? ⟨gb440, 1, none⟩ = some (.int .i64 a1_1) ∧ w'.cell? ⟨gb440, 2, none⟩ = some (.string a1_2) ∧ w'.cell? ⟨gb440, 3, none⟩ = some (.string a1_3) ∧ w'.cell? ⟨gb440, 4, none⟩ = some (.slice (some ad445) l1_4.length c1_4) ∧ w'.cell? (ad444.add ((x6_3).toNat * 3)) = some (.int .i64 ((rd_T23 l0_4 x6_3).f0)) ∧ w'.cell? ⟨(ad444.add ((x6_3).toNat * 3)).block, (ad444.add ((x6_3).toNat * 3)).off + 1, none⟩ = some (.int .i64 ((rd_T23 l0_4 x6_3).f1)) ∧ w'.cell? ⟨(ad444.add ((x6_3).toNat * 3)).block, (ad444.add ((x6_3).toNat * 3)).off + 2, none⟩ = some (.string ((rd_T23 l0_4 x6_3).f2)) ∧ w'.cell? (ad445.add ((x6_3).toNat * 3)) = some (.int .i64 ((rd_T23 l1_4 x6_3).f0)) ∧ w'.cell? ⟨(ad445.add ((x6_3).toNat * 3)).block, (ad445.add ((x6_3).toNat * 3)).off + 1, none⟩ = some (.int .i64 ((rd_T23 l1_4 x6_3).f1)) ∧ w'.cell? ⟨(ad445.add ((x6_3).toNat * 3)).block, (ad445.add ((x6_3).toNat * 3)).off + 2, none⟩ = some (.string ((rd_T23 l1_4 x6_3).f2))) (ds := []) #[false, false, false, false, false, false, false, false, false, false, false, false] (by kernel_rfl) rfl rfl ⟨(blk_cell BK439.out 0).trans rfl, (blk_cell BK439.out 1).trans rfl, (blk_cell BK439.out 2).trans rfl, (blk_cell BK439.out 3).trans rfl, (blk_cell BK439.out 4).trans rfl, (blk_cell BK440.out 0).trans rfl, (blk_cell BK440.out 1).trans rfl, (blk_cell BK440.out 2).trans rfl, (blk_cell BK440.out 3).trans rfl, (blk_cell BK440.out 4).trans rfl, ((HB.out.cell (World.block_lt_of_cell? w _ hw444_0)).trans hw444_0), ((HB.out.cell (World.block_lt_of_cell? w _ hw444_1)).trans hw444_1), ((HB.out.cell (World.block_lt_of_cell? w _ hw444_2)).trans hw444_2), ((HB.out.cell (World.block_lt_of_cell? w _ hw445_0)).trans hw445_0), ((HB.out.cell (World.block_lt_of_cell? w _ hw445_1)).trans hw445_1), ((HB.out.cell (World.block_lt_of_cell? w _ hw445_2)).trans hw445_2)⟩ (fun hHeld => ?_); refine with_tabW hearsayref02_CompareAtoms.tab9 hearsayref02_CompareAtoms.bits9 (fun HT_ HW_ => ?_)
                      generalize wr.drew = w29 at BK439 BK440 HB hx444_0 hx444_1 hx444_2 hx445_0 hx445_1 hx445_2 hHeld ⊢
                      refine pure_ (i := 0) (N := some 39) (v := ?_) (a' := ?_) #[true, false, false, false, false, false, false, false, false, false, false, false] rfl rfl (any_of HT_.out (by kernel_rfl)) (fun _ _ _ h => h) (Or.inl ⟨by rfl, ?_⟩) ?_ ?_
                      rotate_left
                      · intro w'
                        go_simp
                        with_reducible rfl
                      rotate_left
                      · simp only [Act.put, List.setIfInBounds_toArray, List.set_cons_zero, List.set_cons_succ, i64_w, i32_w]
                        rfl
                      refine pure_ (i := 2) (N := some 41) (v := ?_) (a' := ?_) #[true, false, true, false, false, false, false, false, false, false, false, false] rfl rfl (any_of HT_.out (by kernel_rfl)) (fun _ _ _ h => h) (Or.inl ⟨by rfl, ?_⟩) ?_ ?_
                      rotate_left
                      · intro w'
                        go_simp
                        with_reducible rfl
                      rotate_left
                      · simp only [Act.put, List.setIfInBounds_toArray, List.set_cons_zero, List.set_cons_succ, i64_w, i32_w]
                        rfl
                      refine pure_ (i := 5) (N := some 44) (v := ?_) (a' := ?_) #[true, false, true, false, false, true, false, false, false, false, false, false] rfl rfl (any_of HT_.out (by kernel_rfl)) (fun _ _ _ h => h) (Or.inl ⟨by rfl, ?_⟩) ?_ ?_
                      rotate_left
                      · intro w'
                        go_simp
                        with_reducible rfl
                      rotate_left
                      · simp only [Act.put, List.setIfInBounds_toArray, List.set_cons_zero, List.set_cons_succ, i64_w, i32_w]
                        rfl
                      refine pure_ (i := 7) (N := some 46) (v := ?_) (a' := ?_) #[true, false, true, false, false, true, false, true, false, false, false, false] rfl rfl (any_of HT_.out (by kernel_rfl)) (fun _ _ _ h => h) (Or.inl ⟨by rfl, ?_⟩) ?_ ?_
                      rotate_left
                      · intro w'
                        go_simp
                        with_reducible rfl
                      rotate_left
                      · simp only [Act.put, List.setIfInBounds_toArray, List.set_cons_zero, List.set_cons_succ, i64_w, i32_w]
                        rfl
                      refine take_ (i := 1) (N := some 40) (v := ?_) (a' := ?_) #[true, true, true, false, false, true, false, true, false, false, false, false] rfl rfl (take_ofW HT_.out HW_.out (by kernel_rfl)) (fun _ _ _ h => h) (Or.inl ⟨by rfl, ?_⟩) hHeld ?_ ?_
                      rotate_left
                      · rintro w' ⟨s0, s1, s2, s3, s4, s5, s6, s7, s8, s9, s10, s11, s12, s13, s14, s15⟩
                        go_simp
                        with_reducible rfl
                      rotate_left
                      · simp only [Act.put, List.setIfInBounds_toArray, List.set_cons_zero, List.set_cons_succ, i64_w, i32_w]
                        rfl
                      refine pure_ (i := 3) (N := some 42) (v := ?_) (a' := ?_) #[true, true, true, true, false, true, false, true, false, false, false, false] rfl rfl (any_of HT_.out (by kernel_rfl)) (fun _ _ _ h => h) (Or.inl ⟨by rfl, ?_⟩) ?_ ?_
                      rotate_left
                      · intro w'
                        go_simp
                        with_reducible rfl
                      rotate_left
                      · simp only [Act.put, List.setIfInBounds_toArray, List.set_cons_zero, List.set_cons_succ, i64_w, i32_w]
                        rfl
                      refine take_ (i := 4) (N := some 43) (v := ?_) (a' := ?_) #[true, true, true, true, true, true, false, true, false, false, false, false] rfl rfl (take_ofW HT_.out HW_.out (by kernel_rfl)) (fun _ _ _ h => h) (Or.inl ⟨by rfl, ?_⟩) hHeld ?_ ?_
                      rotate_left
                      · rintro w' ⟨s0, s1, s2, s3, s4, s5, s6, s7, s8, s9, s10, s11, s12, s13, s14, s15⟩
                        go_simp
                        with_reducible rfl
                      rotate_left
                      · simp only [Act.put, List.setIfInBounds_toArray, List.set_cons_zero, List.set_cons_succ, i64_w, i32_w]
                        rfl
                      refine take_ (i := 6) (N := some 45) (v := ?_) (a' := ?_) #[true, true, true, true, true, true, true, true, false, false, false, false] rfl rfl (take_ofW HT_.out HW_.out (by kernel_rfl)) (fun _ _ _ h => h) (Or.inl ⟨by rfl, ?_⟩) hHeld ?_ ?_
                      rotate_left
                      · rintro w' ⟨s0, s1, s2, s3, s4, s5, s6, s7, s8, s9, s10, s11, s12, s13, s14, s15⟩
                        go_simp
                        with_reducible rfl
                      rotate_left
                      · simp only [Act.put, List.setIfInBounds_toArray, List.set_cons_zero, List.set_cons_succ, i64_w, i32_w]
                        rfl
                      refine pure_ (i := 8) (N := some 47) (v := ?_) (a' := ?_) #[true, true, true, true, true, true, true, true, true, false, false, false] rfl rfl (any_of HT_.out (by kernel_rfl)) (fun _ _ _ h => h) (Or.inl ⟨by rfl, ?_⟩) ?_ ?_
                      rotate_left
                      · intro w'
                        go_simp
                        with_reducible rfl
                      rotate_left
                      · simp only [Act.put, List.setIfInBounds_toArray, List.set_cons_zero, List.set_cons_succ, i64_w, i32_w]
                        rfl
                      refine take_ (i := 9) (N := some 48) (v := ?_) (a' := ?_) #[true, true, true, true, true, true, true, true, true, true, false, false] rfl rfl (take_ofW HT_.out HW_.out (by kernel_rfl)) (fun _ _ _ h => h) (Or.inl ⟨by rfl, ?_⟩) hHeld ?_ ?_
                      rotate_left
                      · rintro w' ⟨s0, s1, s2, s3, s4, s5, s6, s7, s8, s9, s10, s11, s12, s13, s14, s15⟩
                        go_simp
                        with_reducible rfl
                      rotate_left
                      · simp only [Act.put, List.setIfInBounds_toArray, List.set_cons_zero, List.set_cons_succ, i64_w, i32_w]
                        rfl
                      refine one_ (i := 10) (N := some 49) #[true, true, true, true, true, true, true, true, true, true, true, false] rfl rfl (one_of HT_.out (by kernel_rfl)) (by decide) (fun K hK => ?_)
                      refine goes_ Tryd.func68 (by kernel_rfl) rfl #[.agg #[.int .i64 ((rd_T23 l0_4 x6_3).f0), .int .i64 ((rd_T23 l0_4 x6_3).f1), .string ((rd_T23 l0_4 x6_3).f2)], .agg #[.int .i64 ((rd_T23 l1_4 x6_3).f0), .int .i64 ((rd_T23 l1_4 x6_3).f1), .string ((rd_T23 l1_4 x6_3).f2)]] (by rfl) rfl rfl (by (try simp only [List.map_toArray, List.map_cons, List.map_nil]); first | done | rfl | (simp only [List.length_drop, List.length_take]; rfl)) ?_
                      with_reducible refine (hearsayref02_Compare.calls k3 ((rd_T23 l0_4 x6_3).f0) ((rd_T23 l0_4 x6_3).f1) ((rd_T23 l0_4 x6_3).f2) ((rd_T23 l1_4 x6_3).f0) ((rd_T23 l1_4 x6_3).f1) ((rd_T23 l1_4 x6_3).f2) t446 _ A26.out).mono ?_
                      rintro e w30 ⟨rfl, hb⟩
                      refine ⟨_, rfl, ?_⟩
                      have n0_ := Aside0.mk (blk_below (g := gb439) (o := .cells #[.int .i64 a0_0, .int .i64 a0_1, .string a0_2, .string a0_3, .slice (some ad444) l0_4.length c0_4] 26 (0, 0)) (by (with_reducible repeat (first | refine blk_drewN ?_ _ | refine blk_drew ?_ | refine blk_alloc ?_ _)); exact BK439.out) hb)
                      have n1_ := Aside0.mk (blk_below (g := gb440) (o := .cells #[.int .i64 a1_0, .int .i64 a1_1, .string a1_2, .string a1_3, .slice (some ad445) l1_4.length c1_4] 26 (0, 0)) (by (with_reducible repeat (first | refine blk_drewN ?_ _ | refine blk_drew ?_ | refine blk_alloc ?_ _)); exact BK440.out) hb)
                      have n2_ := Aside0.mk (below_step (by repeat (first | (with_reducible first | exact HB.out | apply below_alloc | apply pw_below_drewN | apply below_drew1 | refine below_set ?_ GE439.out | refine below_set ?_ GE440.out) | exact HB.out)) hb)
                      clear BK439
                      clear BK440
                      clear HB
                      have BK439 := n0_
                      have BK440 := n1_
                      have HB := n2_
                      clear n0_ n1_ n2_
                      (try clear hb)
                      (try clear hb2)
                      (try clear hk)
                      (try clear hi)
                      refine hK.out _ _ ⟨(blk_cell BK439.out 0).trans rfl, (blk_cell BK439.out 1).trans rfl, (blk_cell BK439.out 2).trans rfl, (blk_cell BK439.out 3).trans rfl, (blk_cell BK439.out 4).trans rfl, (blk_cell BK440.out 0).trans rfl, (blk_cell BK440.out 1).trans rfl, (blk_cell BK440.out 2).trans rfl, (blk_cell BK440.out 3).trans rfl, (blk_cell BK440.out 4).trans rfl, ((HB.out.cell (World.block_lt_of_cell? w _ hw444_0)).trans hw444_0), ((HB.out.cell (World.block_lt_of_cell? w _ hw444_1)).trans hw444_1), ((HB.out.cell (World.block_lt_of_cell? w _ hw444_2)).trans hw444_2), ((HB.out.cell (World.block_lt_of_cell? w _ hw445_0)).trans hw445_0), ((HB.out.cell (World.block_lt_of_cell? w _ hw445_1)).trans hw445_1), ((HB.out.cell (World.block_lt_of_cell? w _ hw445_2)).trans hw445_2)⟩ (fun hHeld => ?_)
                      clear hK K
                      refine norm_ (a' := ?_) ?_ ?_
                      rotate_left
                      · show Act.put _ (some 49) _ = _
                        simp only [Act.put, List.setIfInBounds_toArray, List.set_cons_zero, List.set_cons_succ, i64_w, i32_w]
                        rfl
                      refine pure_ (i := 11) (N := some 5) (v := ?_) (a' := ?_) #[true, true, true, true, true, true, true, true, true, true, true, true] rfl rfl (any_of HT_.out (by kernel_rfl)) (fun _ _ _ h => h) (Or.inl ⟨by rfl, ?_⟩) ?_ ?_
                      rotate_left
                      · intro w'
                        go_simp
                        with_reducible rfl
                      rotate_left
                      · simp only [Act.put, List.setIfInBounds_toArray, List.set_cons_zero, List.set_cons_succ, i64_w, i32_w]
                        rfl
                      refine done_ (done_of HT_.out (by kernel_rfl)) ?_
                      try go_wp2
                      go_roundg k3
                      case measure => have := HJ3.out; have := HJ14.out; have := HK3.out; omega
                      case rel => exact ⟨(t446), (wrap64 (x6_3 + 1)), (by first | rfl | (simp; done) | (simp [*]; done)), (by first | rfl | (simp; done) | (simp [*]; done)), H', ⟨by have := HJ3.out; have := HJ14.out; have := HK3.out; omega⟩, ⟨by (with_reducible repeat (first | refine blk_drewN ?_ _ | refine blk_drew ?_ | refine blk_alloc ?_ _)); exact BK439.out⟩, ⟨by (with_reducible repeat (first | refine blk_drewN ?_ _ | refine blk_drew ?_ | refine blk_alloc ?_ _)); exact BK440.out⟩, ⟨by repeat (first | (with_reducible first | exact HB.out | apply below_alloc | apply pw_below_drewN | apply below_drew1 | refine below_set ?_ GE439.out | refine below_set ?_ GE440.out) | exact HB.out)⟩⟩
                    · rw [if_neg c25] at H
                      exact absurd H (by simp)
                  · rw [if_neg c24] at H
                    exact absurd H (by simp)
                · rw [if_neg c23] at H
                  have c23b0 : decide (x6_3 < (l0_4.length : Int)) = false := decide_eq_false c23
                  clear c23
                  obtain rfl := Option.some.inj H
                  have hnb31 := NB439_440.out
                  have hnc31 := NB440_439.out
                  have hcz32_0 : wr.cell? ⟨gb439, 0, none⟩ = some (.int .i64 a0_0) := (blk_cell BK439.out 0).trans rfl
                  have hcz32_1 : wr.cell? ⟨gb439, 1, none⟩ = some (.int .i64 a0_1) := (blk_cell BK439.out 1).trans rfl
                  have hcz32_2 : wr.cell? ⟨gb439, 2, none⟩ = some (.string a0_2) := (blk_cell BK439.out 2).trans rfl
                  have hcz32_3 : wr.cell? ⟨gb439, 3, none⟩ = some (.string a0_3) := (blk_cell BK439.out 3).trans rfl
                  have hcz32_4 : wr.cell? ⟨gb439, 4, none⟩ = some (.slice A0_4 l0_4.length c0_4) := (blk_cell BK439.out 4).trans rfl
                  have hfz32_0 := blk_frozen BK439.out 0
                  have hfz32_1 := blk_frozen BK439.out 1
                  have hfz32_2 := blk_frozen BK439.out 2
                  have hfz32_3 := blk_frozen BK439.out 3
                  have hfz32_4 := blk_frozen BK439.out 4
                  go_wp2
                  go_ret
                  exact ⟨by first | rfl | (simp [errW_none, errW_some] <;> rfl) | (simp [errW_none, errW_some, bne, show ∀ l_ : List UInt8, (l_ == []) = l_.isEmpty from fun l_ => by cases l_ <;> rfl]; done) | (simp [*, errW_none, errW_some] <;> rfl), by repeat (first | (with_reducible first | exact HB.out | apply below_alloc | apply pw_below_drewN | apply below_drew1 | refine below_set ?_ GE439.out | refine below_set ?_ GE440.out) | exact HB.out)⟩
              · rw [if_neg c22] at H
                have c22b0 : (x5_3 == 0) = false := beq_eq_false_iff_ne.mpr c22
                have c22b1 : (x5_3 != 0) = true := bne_iff_ne.mpr c22
                obtain rfl := Option.some.inj H
                go_wp2
                go_ret
                exact ⟨by first | rfl | (simp [errW_none, errW_some] <;> rfl) | (simp [errW_none, errW_some, bne, show ∀ l_ : List UInt8, (l_ == []) = l_.isEmpty from fun l_ => by cases l_ <;> rfl]; done) | (simp [*, errW_none, errW_some] <;> rfl), by repeat (first | (with_reducible first | exact HB.out | apply below_alloc | apply pw_below_drewN | apply below_drew1 | refine below_set ?_ GE439.out | refine below_set ?_ GE440.out) | exact HB.out)⟩

end Go.Proofs.YtnomgmlfagiffaaDoor.T
/- The document's comparison of atoms, and its Settled, in closed form. -/
set_option linter.unusedVariables false
set_option linter.unusedSimpArgs false
namespace Go.Proofs.YtnomgmlfagiffaaDoor.T
open Go.RowKit Go.Lib Go.Proofs.YtnomgmlfagiffaaDoorW.PrintWords Go.Proofs.YtnomgmlfagiffaaDoor.Hs
/-- CompareAtoms: by name, number of arguments, qualifier, arguments. -/
def cmpA (t : Tm) (nm : ByteArray) (l : List Tm) (u : Tm) (nn : ByteArray) (m : List Tm) : Int :=
  orI (compareBytes nm.toList nn.toList) (orI (compareInt l.length m.length) (orI (cmpT t u) (cmpList cmpT l m)))
theorem rlist_f (t u : Tm) (nm nn : ByteArray) (l m : List Tm) (hl : l.length = m.length) (ol : l.all okT = true) (om : m.all okT = true) (ll : l.length < smallN) :
    ∀ (n i : Nat) (c : Int), l.length = i + n → ∃ K, ∀ k, K ≤ k → hearsayref02_CompareAtoms.l0 k c (i : Int) t.f0 t.f1 t.f2 nm l u.f0 u.f1 u.f2 nn m = some (if c = 0 then cmpList cmpT (l.drop i) (m.drop i) else c) := by
  intro n
  induction n with
  | zero =>
    intro i c hi
    refine ⟨1, fun k hk => ?_⟩
    obtain ⟨k, rfl⟩ : ∃ j, k = j + 1 := ⟨k - 1, by omega⟩
    rw [hearsayref02_CompareAtoms.l0, if_neg (show ¬ ((i : Int) < (l.length : Int)) by omega), List.drop_eq_nil_of_le (by omega), List.drop_eq_nil_of_le (by omega)]
    by_cases h : c = 0
    · rw [if_pos h, if_pos h, h]; rfl
    · rw [if_neg h, if_neg h]
  | succ n ih =>
    intro i c hi
    have h1 : i < l.length := by omega
    have h2 : i < m.length := by omega
    obtain ⟨K, hK⟩ := ih (i + 1) (cmpT l[i] m[i]) (by omega)
    have o1 := List.all_eq_true.1 ol _ (List.getElem_mem h1)
    have o2 := List.all_eq_true.1 om _ (List.getElem_mem h2)
    refine ⟨K + 2 * l[i].f2.size + 3, fun k hk => ?_⟩
    obtain ⟨k, rfl⟩ : ∃ j, k = j + 1 := ⟨k - 1, by omega⟩
    rw [hearsayref02_CompareAtoms.l0]
    by_cases h : c = 0
    · rw [if_pos h, if_pos (by omega), if_pos (by omega), if_pos (by omega), rd_at23 _ _ h1, rd_at23 _ _ h2, rcompare_f _ _ o1 o2 k (by omega), wrap_succ i (by omega)]
      simp only [Option.bind_some]
      rw [hK k (by omega), if_pos h, List.drop_eq_getElem_cons h1, List.drop_eq_getElem_cons h2, cmpList]
      by_cases hz : cmpT l[i] m[i] = 0
      · rw [if_pos hz, if_neg (by simp [hz])]
      · rw [if_neg hz, if_pos hz]
    · rw [if_neg h, if_neg h]
theorem rcmpA_f (t u : Tm) (nm nn : ByteArray) (l m : List Tm) (ot : okT t = true) (ou : okT u = true) (hn : nm.size ≤ 9223372036854775807) (hm : nn.size ≤ 9223372036854775807) (ol : l.all okT = true) (om : m.all okT = true) (ll : l.length < smallN) :
    ∃ K, ∀ k, K ≤ k → hearsayref02_CompareAtoms.f k t.f0 t.f1 t.f2 nm l u.f0 u.f1 u.f2 nn m = some (cmpA t nm l u nn m) := by
  have body : ∀ c : Int, (c = 0 → l.length = m.length) → ∃ K, ∀ k, K ≤ k → hearsayref02_CompareAtoms.j0 k c t.f0 t.f1 t.f2 nm l u.f0 u.f1 u.f2 nn m = some (orI c (orI (cmpT t u) (cmpList cmpT l m))) := by
    intro c hc
    by_cases h : c = 0
    · obtain ⟨K, hK⟩ := rlist_f t u nm nn l m (hc h) ol om ll l.length 0 (cmpT t u) (by omega)
      refine ⟨K + 2 * t.f2.size + 4, fun k hk => ?_⟩
      obtain ⟨k, rfl⟩ : ∃ j, k = j + 2 := ⟨k - 2, by omega⟩
      rw [hearsayref02_CompareAtoms.j0, if_pos h, rcompare_f t u ot ou _ (by omega)]
      simp only [Option.bind_some]
      rw [hearsayref02_CompareAtoms.j1]
      have := hK k (by omega)
      simp only [Int.natCast_zero, List.drop_zero] at this
      rw [this, h]
      unfold orI
      by_cases hz : cmpT t u = 0
      · simp [hz]
      · simp [hz]
    · refine ⟨3, fun k hk => ?_⟩
      obtain ⟨k, rfl⟩ : ∃ j, k = j + 3 := ⟨k - 3, by omega⟩
      rw [hearsayref02_CompareAtoms.j0, if_neg h, hearsayref02_CompareAtoms.j1, hearsayref02_CompareAtoms.l0, if_neg h]
      unfold orI
      rw [if_pos h]
  unfold hearsayref02_CompareAtoms.f cmpA
  by_cases h : compareBytes nm.toList nn.toList = 0
  · obtain ⟨K, hK⟩ := body (compareInt l.length m.length) (fun h => by have := (cmpInt.eq _ _).1 h; omega)
    refine ⟨K + 2 * nm.size + 2, fun k hk => ?_⟩
    rw [texts_f nm nn hn hm k (by omega)]
    simp only [Option.bind_some, rints_f]
    rw [if_pos h, hK k (by omega), h]
    rfl
  · obtain ⟨K, hK⟩ := body (compareBytes nm.toList nn.toList) (fun h2 => absurd h2 h)
    refine ⟨K + 2 * nm.size + 2, fun k hk => ?_⟩
    rw [texts_f nm nn hn hm k (by omega)]
    simp only [Option.bind_some]
    rw [if_neg h, hK k (by omega)]
    unfold orI
    rw [if_pos h, if_pos h]
end Go.Proofs.YtnomgmlfagiffaaDoor.T
-- By a program of this session (wip/tools/myprint.py), out of the translation.
namespace Go.Proofs.YtnomgmlfagiffaaDoor.T
open Go.RowKit Go.Proofs.YtnomgmlfagiffaaDoorW.PrintWords Go.Proofs.YtnomgmlfagiffaaDoorW.PrintLast Go.Proofs.YtnomgmlfagiffaaDoorW.PrintMore
attribute [local go_sem] max2_int min2_int max_two min_two max_three min_three max_four min_four   -- for this text's walks alone
set_option linter.unusedVariables false
set_option linter.unusedSimpArgs false

def hearsayref02_Places.f (a0_0 : Int) (a0_1 : Int) (a0_2 : ByteArray) (a0_3 : ByteArray) (l0_4 : List (S23)) : Option ((List (S23))) := (some (([(⟨a0_0, a0_1, a0_2⟩ : S23)] : List (S23)) : List (S23))).bind fun y426 => (if y426.length + l0_4.length < 4398046511104 then (some (y426 ++ l0_4)) else (none))
set_option maxHeartbeats 8000000 in
set_option maxRecDepth 100000 in
theorem hearsayref02_Places.calls (a0_0 : Int) (a0_1 : Int) (a0_2 : ByteArray) (a0_3 : ByteArray) (A0_4 : Option Addr) (c0_4 : Nat) (l0_4 : List (S23)) (r : List (S23)) (w : World) (hr0_4 : Kd.C k23 w A0_4 l0_4.length l0_4) (hc0_4 : l0_4.length ≤ c0_4) (h : hearsayref02_Places.f a0_0 a0_1 a0_2 a0_3 l0_4 = some r) :
    Calls Tryd.prog 53 #[.agg #[.int .i64 a0_0, .int .i64 a0_1, .string a0_2, .string a0_3, .slice A0_4 l0_4.length c0_4]] w fun e w' => ∃ v0_ : Value, e = .returned (v0_) ∧ Kd.R k23 23 w' w.heap.size (fun _ => True) v0_ r ∧ Below w.heap.size w w' := by
  have hu26 := Tryd.underlying26
  have hu23 := Tryd.underlying23
  have HR0_4 := Aside0.mk hr0_4
  have HC0_4 := Aside0.mk hc0_4
  clear hr0_4 hc0_4
  have HB := Aside0.mk (Below.refl w.heap.size w)
  have H : ((some (([(⟨a0_0, a0_1, a0_2⟩ : S23)] : List (S23)) : List (S23))).bind fun y426 => (if y426.length + l0_4.length < 4398046511104 then (some (y426 ++ l0_4)) else (none))) = some r := h
  clear h
  obtain ⟨y426, hy426⟩ : ∃ y_ : List (S23), y_ = (([(⟨a0_0, a0_1, a0_2⟩ : S23)] : List (S23))) := ⟨_, rfl⟩
  replace H : (if y426.length + l0_4.length < 4398046511104 then (some (y426 ++ l0_4)) else (none)) = some r := by first | (rw [hy426]; with_reducible exact H) | (have H2_ := (Option.bind_some _ _).symm.trans H; rw [hy426]; with_reducible exact H2_) | (have H2_ := (Option.bind_some _ _).symm.trans H; with_reducible exact H2_) | with_reducible exact H | (rw [hy426]; exact H) | exact H
  have Ny426 := Aside0.mk hy426
  clear hy426
  by_cases c2 : y426.length + l0_4.length < 4398046511104
  · rw [if_pos c2] at H
    have LMc2 := Aside0.mk c2
    clear c2
    obtain ⟨y429, hy429⟩ : ∃ y_ : List (S23), y_ = (y426 ++ l0_4) := ⟨_, rfl⟩
    replace H : (some y429) = some r := by first | (rw [hy429]; with_reducible exact H) | (have H2_ := (Option.bind_some _ _).symm.trans H; rw [hy429]; with_reducible exact H2_) | (have H2_ := (Option.bind_some _ _).symm.trans H; with_reducible exact H2_) | with_reducible exact H | (rw [hy429]; exact H) | exact H
    have Ny429 := Aside0.mk hy429
    clear hy429
    obtain rfl := Option.some.inj H
    go_enter Tryd.func53, Tryd.ntmps53
    go_wp2_with (first | ((with_reducible refine gate_dst (N := 1) rfl ?_); refine box_event ?hg (N := 1) ?hd (cs := #[.int .i64 a0_0, .int .i64 a0_1, .string a0_2, .string a0_3, .slice A0_4 l0_4.length c0_4]) (t := 26) ?hr ?_; (case hd => rfl); (case hg => rfl); (case hr => first | (go_simp; done) | (go_simp; rfl)); intro gb425 hg w3 hbox hb; have n0_ := Aside0.mk (below_step (by repeat (first | (with_reducible first | exact HB.out | apply below_alloc | apply pw_below_drewN | apply below_drew1) | exact HB.out)) hb); have n1_ := Aside0.mk (hbox); have n2_ := Aside0.mk ((by rw [hg]; exact (below_size (by repeat (first | (with_reducible first | exact HB.out | apply below_alloc | apply pw_below_drewN | apply below_drew1) | exact HB.out))) : w.heap.size ≤ gb425)); have n3_ := Aside0.mk ((by rw [hg]; exact (below_size (by repeat (first | (with_reducible first | exact HB.out | apply below_alloc | apply pw_below_drewN | apply below_drew1) | exact HB.out))) : w.heap.size ≤ gb425)); clear HB; have HB := n0_; have BK425 := n1_; have GW425 := n2_; have GE425 := n3_; clear n0_ n1_ n2_ n3_; clear hb hbox hg; have hcz4_0 : w3.cell? ⟨gb425, 0, none⟩ = some (.int .i64 a0_0) := (blk_cell BK425.out 0).trans rfl; have hcz4_1 : w3.cell? ⟨gb425, 1, none⟩ = some (.int .i64 a0_1) := (blk_cell BK425.out 1).trans rfl; have hcz4_2 : w3.cell? ⟨gb425, 2, none⟩ = some (.string a0_2) := (blk_cell BK425.out 2).trans rfl; have hcz4_3 : w3.cell? ⟨gb425, 3, none⟩ = some (.string a0_3) := (blk_cell BK425.out 3).trans rfl; have hcz4_4 : w3.cell? ⟨gb425, 4, none⟩ = some (.slice A0_4 l0_4.length c0_4) := (blk_cell BK425.out 4).trans rfl; have hfz4_0 := blk_frozen BK425.out 0; have hfz4_1 := blk_frozen BK425.out 1; have hfz4_2 := blk_frozen BK425.out 2; have hfz4_3 := blk_frozen BK425.out 3; have hfz4_4 := blk_frozen BK425.out 4) | ((with_reducible refine gate_dst (N := 6) rfl ?_); refine Kd.R_lit k23 _ 23 ?hg (N := 6) ?hd (xs := ([(⟨a0_0, a0_1, a0_2⟩ : S23)] : List (S23))) (inner := [.int .i64 a0_0, .int .i64 a0_1, .string a0_2]) (ok := fun _ => True) (okp := fun _ => True) ?hr ?hp (fun _ hk => hk) trivial (Below.refl _ _) (Nat.le_refl _) (by simp) ?_; (case hd => rfl); (case hg => rfl); (case hr => first | (go_simp; done) | (go_simp; rfl)); (case hp => exact (Reps.c3 (show Kd.M k23 _ _ _ (⟨a0_0, a0_1, a0_2⟩ : S23) [.int .i64 a0_0, .int .i64 a0_1, .string a0_2] from (k23_mkM _ _ _ (⟨a0_0, a0_1, a0_2⟩ : S23) )) (Reps.none _ _))); intro v427 w5 ho6 hb hg_ hnew_; clear hg_ hnew_; (first | rw [← Ny426.out] at ho6 | (simp only [Int.reduceToNat] at ho6; rw [← Ny426.out] at ho6)); have n0_ := Aside0.mk (Kd.R_lower ho6 (below_size (by repeat (first | (with_reducible first | exact HB.out | apply below_alloc | apply pw_below_drewN | apply below_drew1 | refine below_set ?_ GE425.out) | exact HB.out)))); have n1_ := Aside0.mk (blk_below (g := gb425) (o := .cells #[.int .i64 a0_0, .int .i64 a0_1, .string a0_2, .string a0_3, .slice A0_4 l0_4.length c0_4] 26 (0, 0)) (by (with_reducible repeat (first | refine blk_drewN ?_ _ | refine blk_drew ?_ | refine blk_alloc ?_ _)); exact BK425.out) hb); have n2_ := Aside0.mk (below_step (by repeat (first | (with_reducible first | exact HB.out | apply below_alloc | apply pw_below_drewN | apply below_drew1 | refine below_set ?_ GE425.out) | exact HB.out)) hb); clear BK425; clear HB; have HO428 := n0_; have BK425 := n1_; have HB := n2_; clear n0_ n1_ n2_; clear hb ho6; have hcz7_0 : w5.cell? ⟨gb425, 0, none⟩ = some (.int .i64 a0_0) := (blk_cell BK425.out 0).trans rfl; have hcz7_1 : w5.cell? ⟨gb425, 1, none⟩ = some (.int .i64 a0_1) := (blk_cell BK425.out 1).trans rfl; have hcz7_2 : w5.cell? ⟨gb425, 2, none⟩ = some (.string a0_2) := (blk_cell BK425.out 2).trans rfl; have hcz7_3 : w5.cell? ⟨gb425, 3, none⟩ = some (.string a0_3) := (blk_cell BK425.out 3).trans rfl; have hcz7_4 : w5.cell? ⟨gb425, 4, none⟩ = some (.slice A0_4 l0_4.length c0_4) := (blk_cell BK425.out 4).trans rfl; have hfz7_0 := blk_frozen BK425.out 0; have hfz7_1 := blk_frozen BK425.out 1; have hfz7_2 := blk_frozen BK425.out 2; have hfz7_3 := blk_frozen BK425.out 3; have hfz7_4 := blk_frozen BK425.out 4) | ((with_reducible refine gate_builtin (b := .append) (xs := #[.tmp 7, .tmp 9]) rfl ?_); at_builtin; refine Kd.R_append_rows k23 (w0 := w) w.heap.size rfl (.tmp 7) (.tmp 9) 24 23 (.agg #[(.int .i64 0), (.int .i64 0), (.string ⟨#[]⟩)]) 32 rfl Tryd.underlying24 info23 rfl (by decide) (by omega) v427 y426 l0_4 _ _ _ (fun _ => True) (fun _ => False) rfl rfl ?aO ?aR (fun _ _ h => h) (fun _ h => h.elim) ?aF ?aB ?aS ?aL ?_; (case aR => repeat (first | exact (Kd.C_below HR0_4.out HB.out) | (with_reducible refine Kd.C_alloc ?_ _) | (with_reducible refine Kd.C_drewN ?_ _) | (with_reducible refine Kd.C_drew ?_))); (case aB => exact (by repeat (first | (with_reducible first | exact HB.out | apply below_alloc | apply pw_below_drewN | apply below_drew1 | refine below_set ?_ GE425.out) | exact HB.out))); (case aF => exact (fun _ _ => trivial)); (case aO => exact (by (with_reducible repeat (first | apply Kd.R_alloc | apply Kd.R_drewN | apply Kd.R_drew)); exact HO428.out)); (case aS => exact (below_size (by repeat (first | (with_reducible first | exact HB.out | apply below_alloc | apply pw_below_drewN | apply below_drew1 | refine below_set ?_ GE425.out) | exact HB.out)))); (case aL => have := LMc2.out; omega); intro v430 w8 ho hb hg hat; rw [← Ny429.out] at ho; have n0_ := Aside0.mk (blk_grown (g := gb425) (o := .cells #[.int .i64 a0_0, .int .i64 a0_1, .string a0_2, .string a0_3, .slice A0_4 l0_4.length c0_4] 26 (0, 0)) (by (with_reducible repeat (first | refine blk_drewN ?_ _ | refine blk_drew ?_ | refine blk_alloc ?_ _)); exact BK425.out) hg (Kd.R_ne HO428.out BK425.out (by decide))); have n1_ := Aside0.mk (hb); have n2_ := Aside0.mk (ho); clear BK425; clear HB; clear HO428; have BK425 := n0_; have HB := n1_; have HO431 := n2_; clear n0_ n1_ n2_; clear ho hb hg hat))
    go_ret
    exact ⟨_, by first | rfl | (simp [errW_none, errW_some] <;> rfl) | (simp [errW_none, errW_some, bne, show ∀ l_ : List UInt8, (l_ == []) = l_.isEmpty from fun l_ => by cases l_ <;> rfl]; done) | (simp [*, errW_none, errW_some] <;> rfl), by (with_reducible repeat (first | apply Kd.R_alloc | apply Kd.R_drewN | apply Kd.R_drew)); exact HO431.out, by repeat (first | (with_reducible first | exact HB.out | apply below_alloc | apply pw_below_drewN | apply below_drew1 | refine below_set ?_ GE425.out) | exact HB.out)⟩
  · rw [if_neg c2] at H
    exact absurd H (by simp)

end Go.Proofs.YtnomgmlfagiffaaDoor.T
/- The document's Match is the program's. -/
set_option linter.unusedVariables false
set_option linter.unusedSimpArgs false
namespace Go.Proofs.YtnomgmlfagiffaaDoor.T
open Go.RowKit Go.Lib Go.Proofs.YtnomgmlfagiffaaDoorW.PrintWords Go.Proofs.YtnomgmlfagiffaaDoor.Hs
theorem rplaces_f (t : Tm) (nm : ByteArray) (l : List Tm) (ll : l.length < smallN) : hearsayref02_Places.f t.f0 t.f1 t.f2 nm l = some (t :: l) := by
  unfold hearsayref02_Places.f
  simp only [Option.bind_some]
  rw [if_pos (by simp [smallN] at ll; simp; omega)]
  rfl
end Go.Proofs.YtnomgmlfagiffaaDoor.T
/- slices.IndexFunc, ContainsFunc and CompareFunc at Term, with function values that may lay memory. -/
set_option linter.unusedVariables false
set_option linter.unusedSimpArgs false
namespace Go.Proofs.YtnomgmlfagiffaaDoor.T
open Go.RowKit Go.Proofs.YtnomgmlfagiffaaDoorW.PrintWords Go.Proofs.YtnomgmlfagiffaaDoorW.PrintLast
/-- What is asked of a function value over a term: it answers p, whatever lies new. -/
def PredB (g : Nat) (p : Tm → Bool) (w : World) : Prop := ∀ (x : Tm) (W : World), okT x = true → Below w.heap.size w W → Calls Tryd.prog g #[.agg #[.int .i64 x.f0, .int .i64 x.f1, .string x.f2]] W fun e W' => e = .returned (.bool (p x)) ∧ Below W.heap.size W W'
theorem any_false {l : List Tm} {p : Tm → Bool} (h : ∀ j : Nat, (hj : j < l.length) → p l[j] = false) : l.any p = false := by
  rw [List.any_eq_false]
  intro x hx
  obtain ⟨j, hj, rfl⟩ := List.getElem_of_mem hx
  simp [h j hj]
set_option maxHeartbeats 4000000 in
set_option maxRecDepth 100000 in
theorem idxF_calls (p : Tm → Bool) (g : Nat) (eg : ∀ args w, (callFunc g args).run Tryd.prog w = .ok (.enter g args) w) (A0 : Option Addr) (c0 : Nat) (l : List Tm) (w : World)
    (hr0 : Kd.C k23 w A0 l.length l) (hc0 : l.length ≤ c0) (ol : l.all okT = true) (hs : l.length < smallN) (hp : PredB g p w) :
    Calls Tryd.prog 85 #[.slice A0 l.length c0, .func (.func g) #[] #[]] w fun e w' => ∃ r : Int, e = .returned (.int .i64 r) ∧ decide (0 ≤ r) = l.any p ∧ Below w.heap.size w w' := by
  have hu23 := Tryd.underlying23
  have HR0 := Aside0.mk hr0
  have HC0 := Aside0.mk hc0
  have OL := Aside0.mk ol
  have HS := Aside0.mk hs
  have HP := Aside0.mk hp
  clear hr0 hc0 ol hs hp
  have HB := Aside0.mk (Below.refl w.heap.size w)
  go_enter Tryd.func85, Tryd.ntmps85
  go_wp2
  go_loopg [5, 8] l.length (fun gg _ s8 wr => ∃ i : Int, Aside0 (0 ≤ i ∧ i ≤ (l.length : Int) ∧ (l.length : Int) - i ≤ (gg : Int)) ∧ s8 = .int .i64 i ∧ Aside0 (∀ j : Nat, (hj : j < l.length) → (j : Int) < i → p l[j] = false) ∧ Aside0 (Below w.heap.size w wr))
  case atStart => exact ⟨0, ⟨by omega, by omega, by omega⟩, rfl, ⟨fun j _ hj => absurd hj (by omega)⟩, HB⟩
  case round =>
    obtain ⟨i, HK, rfl, HA, HB1⟩ := hrel
    by_cases hlt : i < (l.length : Int)
    · have hltb : decide (i < (l.length : Int)) = true := decide_eq_true hlt
      have hpos : 0 ≤ i := HK.out.1
      have HLT := Aside0.mk (show i.toNat < l.length by omega)
      have HPOS := Aside0.mk hpos
      obtain ⟨ad, e0, h0, h1, h2⟩ := at_T23 HR0.out i hpos hlt
      cases e0
      replace h0 := (HB1.out.cell (World.block_lt_of_cell? w _ h0)).trans h0
      replace h1 := (HB1.out.cell (World.block_lt_of_cell? w _ h1)).trans h1
      replace h2 := (HB1.out.cell (World.block_lt_of_cell? w _ h2)).trans h2
      have HY := Aside0.mk (show l[i.toNat]'HLT.out = rd_T23 l i from by simp [rd_T23, List.getD_eq_getElem?_getD, List.getElem?_eq_getElem HLT.out])
      have hok : okT (rd_T23 l i) = true := by rw [← HY.out]; exact List.all_eq_true.1 OL.out _ (List.getElem_mem HLT.out)
      have hcall := HP.out (rd_T23 l i) wr hok HB1.out
      have hwr : wrap64 (i + 1) = i + 1 := by have := HS.out; simp only [smallN] at this; simp only [wrap64]; omega
      have hlt' := eq_true hlt
      have hpos' := eq_true hpos
      clear hok hlt hpos
      cases hq : p (rd_T23 l i) with
      | true =>
        rw [hq] at hcall
        have HQ := Aside0.mk hq
        clear hq
        go_wp2_with (go_at_fn g; refine hcall.mono ?_; rintro e w' ⟨rfl, hb⟩; have HB2 := Aside0.mk (below_step HB1.out hb); clear hb)
        go_ret
        refine ⟨i, rfl, ?_, HB2.out⟩
        rw [show l.any p = true from List.any_eq_true.2 ⟨rd_T23 l i, by rw [← HY.out]; exact List.getElem_mem HLT.out, HQ.out⟩]
        simpa using HPOS.out
      | false =>
        rw [hq] at hcall
        have HQ := Aside0.mk hq
        clear hq
        go_wp2_with (go_at_fn g; refine hcall.mono ?_; rintro e w' ⟨rfl, hb⟩; have HB2 := Aside0.mk (below_step HB1.out hb); clear hb)
        go_roundg (l.length - (i.toNat + 1))
        case measure => have := HK.out; have := HLT.out; omega
        case rel =>
          refine ⟨i + 1, ⟨by have := HPOS.out; omega, by have := HLT.out; omega, by have := HLT.out; have := HPOS.out; omega⟩, by first | rfl | (simp [hwr]; done) | go_num, ⟨fun j hj hjk => ?_⟩, HB2⟩
          by_cases e : (j : Int) = i
          · subst e; have := HY.out; simp at this; rw [this]; exact HQ.out
          · exact HA.out j hj (by omega)
    · have hltb : decide (i < (l.length : Int)) = false := decide_eq_false hlt
      have HN := Aside0.mk hlt
      clear hlt
      go_wp2
      go_ret
      refine ⟨-1, rfl, ?_, HB1.out⟩
      rw [any_false (fun j hj => HA.out j hj (by have := HN.out; omega))]
      rfl
set_option maxHeartbeats 4000000 in
set_option maxRecDepth 100000 in
theorem hasF_calls (p : Tm → Bool) (g : Nat) (eg : ∀ args w, (callFunc g args).run Tryd.prog w = .ok (.enter g args) w) (A0 : Option Addr) (c0 : Nat) (l : List Tm) (w : World)
    (hr0 : Kd.C k23 w A0 l.length l) (hc0 : l.length ≤ c0) (ol : l.all okT = true) (hs : l.length < smallN) (hp : PredB g p w) :
    Calls Tryd.prog 70 #[.slice A0 l.length c0, .func (.func g) #[] #[]] w fun e w' => e = .returned (.bool (l.any p)) ∧ Below w.heap.size w w' := by
  have hcall := idxF_calls p g eg A0 c0 l w hr0 hc0 ol hs hp
  clear hr0 hc0 ol hs hp
  go_enter Tryd.func70, Tryd.ntmps70
  go_wp2_with (go_at_call 85; refine hcall.mono ?_; rintro e w' ⟨r, rfl, hd, hb⟩; have HD := Aside0.mk hd; have HB := Aside0.mk hb; clear hd hb)
  go_ret
  exact ⟨by first | rw [← HD.out]; rfl | simp [← HD.out], HB.out⟩
def CmpB (g : Nat) (cf : Tm → Tm → Int) (w : World) : Prop := ∀ (x y : Tm) (W : World), okT x = true → okT y = true → Below w.heap.size w W → Calls Tryd.prog g #[.agg #[.int .i64 x.f0, .int .i64 x.f1, .string x.f2], .agg #[.int .i64 y.f0, .int .i64 y.f1, .string y.f2]] W fun e W' => e = .returned (.int .i64 (cf x y)) ∧ Below W.heap.size W W'
/-- What slices.CompareFunc answers. -/
def cmpL (cf : Tm → Tm → Int) : List Tm → List Tm → Int
  | [], [] => 0
  | [], _ :: _ => -1
  | _ :: _, [] => 1
  | x :: l, y :: m => if cf x y = 0 then cmpL cf l m else cf x y
theorem cmpL_step {cf : Tm → Tm → Int} {l m : List Tm} {i : Nat} (hl : i < l.length) (hm : i < m.length) : cmpL cf (l.drop i) (m.drop i) = if cf l[i] m[i] = 0 then cmpL cf (l.drop (i + 1)) (m.drop (i + 1)) else cf l[i] m[i] := by
  rw [List.drop_eq_getElem_cons hl, List.drop_eq_getElem_cons hm]
  rfl
set_option maxHeartbeats 8000000 in
set_option maxRecDepth 100000 in
theorem cmpF_calls (cf : Tm → Tm → Int) (g : Nat) (eg : ∀ args w, (callFunc g args).run Tryd.prog w = .ok (.enter g args) w) (A0 : Option Addr) (c0 : Nat) (l : List Tm) (A1 : Option Addr) (c1 : Nat) (m : List Tm) (w : World)
    (hr0 : Kd.C k23 w A0 l.length l) (hc0 : l.length ≤ c0) (hr1 : Kd.C k23 w A1 m.length m) (hc1 : m.length ≤ c1) (ol : l.all okT = true) (om : m.all okT = true) (hs : l.length < smallN) (hp : CmpB g cf w) :
    Calls Tryd.prog 77 #[.slice A0 l.length c0, .slice A1 m.length c1, .func (.func g) #[] #[]] w fun e w' => e = .returned (.int .i64 (cmpL cf l m)) ∧ Below w.heap.size w w' := by
  have hu23 := Tryd.underlying23
  have HR0 := Aside0.mk hr0
  have HC0 := Aside0.mk hc0
  have HR1 := Aside0.mk hr1
  have HC1 := Aside0.mk hc1
  have OL := Aside0.mk ol
  have OM := Aside0.mk om
  have HS := Aside0.mk hs
  have HP := Aside0.mk hp
  clear hr0 hc0 hr1 hc1 ol om hs hp
  have HB := Aside0.mk (Below.refl w.heap.size w)
  go_enter Tryd.func77, Tryd.ntmps77
  go_wp2
  go_loopg [13] l.length (fun gg s13 wr => ∃ i : Int, Aside0 (0 ≤ i ∧ i ≤ (l.length : Int) ∧ i ≤ (m.length : Int) ∧ (l.length : Int) - i ≤ (gg : Int)) ∧ s13 = .int .i64 i ∧ Aside0 (cmpL cf (l.drop i.toNat) (m.drop i.toNat) = cmpL cf l m) ∧ Aside0 (Below w.heap.size w wr))
  case atStart => exact ⟨0, ⟨by omega, by omega, by omega, by omega⟩, rfl, ⟨rfl⟩, HB⟩
  case round =>
    obtain ⟨i, HK, rfl, HA, HB1⟩ := hrel
    by_cases hlt : i < (l.length : Int)
    · have hltb : decide (i < (l.length : Int)) = true := decide_eq_true hlt
      have hpos : 0 ≤ i := HK.out.1
      have HLT := Aside0.mk (show i.toNat < l.length by omega)
      have HPOS := Aside0.mk hpos
      obtain ⟨ad, e0, h0, h1, h2⟩ := at_T23 HR0.out i hpos hlt
      cases e0
      replace h0 := (HB1.out.cell (World.block_lt_of_cell? w _ h0)).trans h0
      replace h1 := (HB1.out.cell (World.block_lt_of_cell? w _ h1)).trans h1
      replace h2 := (HB1.out.cell (World.block_lt_of_cell? w _ h2)).trans h2
      have HY := Aside0.mk (show l[i.toNat]'HLT.out = rd_T23 l i from by simp [rd_T23, List.getD_eq_getElem?_getD, List.getElem?_eq_getElem HLT.out])
      have hok : okT (rd_T23 l i) = true := by rw [← HY.out]; exact List.all_eq_true.1 OL.out _ (List.getElem_mem HLT.out)
      have HOK := Aside0.mk hok
      have hwr : wrap64 (i + 1) = i + 1 := by have := HS.out; simp only [smallN] at this; simp only [wrap64]; omega
      have hlt' := eq_true hlt
      have hpos' := eq_true hpos
      clear hok hlt
      by_cases hm : (m.length : Int) ≤ i
      · have hmb : decide ((m.length : Int) ≤ i) = true := decide_eq_true hm
        have HM := Aside0.mk hm
        clear hpos
        go_wp2
        go_ret
        refine ⟨?_, by first | exact HB1.out | exact below_alloc HB1.out _⟩
        rw [← HA.out, List.drop_eq_getElem_cons HLT.out, show m.drop i.toNat = [] from List.drop_of_length_le (by have := HM.out; have := HPOS.out; omega)]
        rfl
      · have hmb : decide ((m.length : Int) ≤ i) = false := decide_eq_false hm
        have hmlt : i < (m.length : Int) := by omega
        have HMT := Aside0.mk (show i.toNat < m.length by omega)
        obtain ⟨ad1, e1, g0, g1, g2⟩ := at_T23 HR1.out i hpos hmlt
        cases e1
        replace g0 := fun o => ((below_alloc HB1.out o).cell (World.block_lt_of_cell? w _ g0)).trans g0
        replace g1 := fun o => ((below_alloc HB1.out o).cell (World.block_lt_of_cell? w _ g1)).trans g1
        replace g2 := fun o => ((below_alloc HB1.out o).cell (World.block_lt_of_cell? w _ g2)).trans g2
        have HZ := Aside0.mk (show m[i.toNat]'HMT.out = rd_T23 m i from by simp [rd_T23, List.getD_eq_getElem?_getD, List.getElem?_eq_getElem HMT.out])
        have hok1 : okT (rd_T23 m i) = true := by rw [← HZ.out]; exact List.all_eq_true.1 OM.out _ (List.getElem_mem HMT.out)
        have HCALL := Aside0.mk (fun W (hb : Below w.heap.size w W) => HP.out (rd_T23 l i) (rd_T23 m i) W HOK.out hok1 hb)
        have hst := cmpL_step (cf := cf) HLT.out HMT.out
        rw [HA.out, HY.out, HZ.out] at hst
        have HST := Aside0.mk hst
        have hmlt' := eq_true hmlt
        clear hok1 hst hm hmlt hpos
        by_cases hq : cf (rd_T23 l i) (rd_T23 m i) = 0
        · have hqb : (cf (rd_T23 l i) (rd_T23 m i) != 0) = false := by simp [hq]
          have HQ := Aside0.mk hq
          clear hq
          go_wp2_with (first | (go_at_fn g; refine (HCALL.out _ (below_alloc (below_alloc HB1.out _) _)).mono ?_; rintro e w' ⟨rfl, hb⟩; have HB2 := Aside0.mk (below_step (below_alloc (below_alloc HB1.out _) _) hb); clear hb) | go_in)
          go_roundg (l.length - (i.toNat + 1))
          case measure => have := HK.out; have := HLT.out; omega
          case rel =>
            refine ⟨i + 1, ⟨by have := HPOS.out; omega, by have := HLT.out; omega, by have := HMT.out; omega, by have := HLT.out; have := HPOS.out; omega⟩, by first | rfl | (simp [hwr]; done) | go_num, ⟨?_⟩, HB2⟩
            rw [show (i + 1).toNat = i.toNat + 1 by have := HPOS.out; omega, HST.out, if_pos HQ.out]
        · have hqb : (cf (rd_T23 l i) (rd_T23 m i) != 0) = true := by simp [hq]
          have HQ := Aside0.mk hq
          clear hq
          go_wp2_with (first | (go_at_fn g; refine (HCALL.out _ (below_alloc (below_alloc HB1.out _) _)).mono ?_; rintro e w' ⟨rfl, hb⟩; have HB2 := Aside0.mk (below_step (below_alloc (below_alloc HB1.out _) _) hb); clear hb) | go_in)
          go_ret
          refine ⟨?_, HB2.out⟩
          rw [HST.out, if_neg HQ.out]
          rfl
    · have hltb : decide (i < (l.length : Int)) = false := decide_eq_false hlt
      have HN := Aside0.mk (show i.toNat = l.length by have := HK.out; omega)
      have HI := Aside0.mk (show i = (l.length : Int) by have := HK.out; omega)
      clear hlt
      by_cases hm : (l.length : Int) < (m.length : Int)
      · have hmb : decide ((l.length : Int) < (m.length : Int)) = true := decide_eq_true hm
        have HM := Aside0.mk hm
        go_wp2
        go_ret
        refine ⟨?_, HB1.out⟩
        rw [← HA.out, HN.out, List.drop_length, List.drop_eq_getElem_cons (show l.length < m.length by have := HM.out; omega)]
        rfl
      · have hmb : decide ((l.length : Int) < (m.length : Int)) = false := decide_eq_false hm
        have HM := Aside0.mk hm
        go_wp2
        go_ret
        refine ⟨?_, HB1.out⟩
        rw [← HA.out, HN.out, List.drop_length, show m.drop l.length = [] from List.drop_of_length_le (by have := HM.out; omega)]
        rfl
end Go.Proofs.YtnomgmlfagiffaaDoor.T
/- Calls of slices.ContainsFunc and CompareFunc with package term's own functions. -/
set_option linter.unusedVariables false
set_option linter.unusedSimpArgs false
namespace Go.Proofs.YtnomgmlfagiffaaDoor.T
open Go.RowKit Go.Proofs.YtnomgmlfagiffaaDoorW.PrintWords Go.Proofs.YtnomgmlfagiffaaDoorW.PrintLast
def badT (t : Tm) : Bool := !isConst t && !isVar t
set_option maxRecDepth 100000 in
theorem bad_calls (x : Tm) (w : World) :
    Calls Tryd.prog 71 #[.agg #[.int .i64 x.f0, .int .i64 x.f1, .string x.f2]] w fun e w' => e = .returned (.bool (badT x)) ∧ Below w.heap.size w w' := by
  have hu23 := Tryd.underlying23
  have HB := Aside0.mk (Below.refl w.heap.size w)
  cases hc : isConst x with
  | true =>
    have A1 := Aside0.mk ((const_f x).trans (congrArg some hc))
    have E := Aside0.mk (show badT x = false by simp [badT, hc])
    clear hc
    go_enter Tryd.func71, Tryd.ntmps71
    go_wp2_with (first | ((with_reducible refine gate_dst (N := 1) rfl ?_); refine box_event ?hg (N := 1) ?hd (cs := #[.int .i64 x.f0, .int .i64 x.f1, .string x.f2]) (t := 23) ?hr ?_; (case hd => rfl); (case hg => rfl); (case hr => first | (go_simp; done) | (go_simp; rfl)); intro b1 hb1 w1 hbox hb; have K1 := Aside0.mk hbox; have HB1 := Aside0.mk hb; clear hb1 hbox hb; have p0 := (blk_cell K1.out 0).trans rfl; have p1 := (blk_cell K1.out 1).trans rfl; have p2 := (blk_cell K1.out 2).trans rfl) | (go_at_call 37; (with_reducible refine (term_Const.calls x.f0 x.f1 x.f2 true _ A1.out).mono ?_); rintro e w2 ⟨rfl, hb⟩; have HB2 := Aside0.mk (below_step HB1.out hb); clear hb p0 p1 p2) | go_in)
    go_ret
    exact ⟨by rw [E.out]; rfl, HB2.out⟩
  | false =>
    have A1 := Aside0.mk ((const_f x).trans (congrArg some hc))
    have A2 := Aside0.mk (var_f x)
    have E := Aside0.mk (show badT x = !isVar x by simp [badT, hc])
    clear hc
    go_enter Tryd.func71, Tryd.ntmps71
    go_wp2_with (first | ((with_reducible refine gate_dst (N := 1) rfl ?_); refine box_event ?hg (N := 1) ?hd (cs := #[.int .i64 x.f0, .int .i64 x.f1, .string x.f2]) (t := 23) ?hr ?_; (case hd => rfl); (case hg => rfl); (case hr => first | (go_simp; done) | (go_simp; rfl)); intro b1 hb1 w1 hbox hb; have K1 := Aside0.mk hbox; have HB1 := Aside0.mk hb; clear hb1 hbox hb; have p0 := (blk_cell K1.out 0).trans rfl; have p1 := (blk_cell K1.out 1).trans rfl; have p2 := (blk_cell K1.out 2).trans rfl) | (go_at_call 37; (with_reducible refine (term_Const.calls x.f0 x.f1 x.f2 false _ A1.out).mono ?_); rintro e w2 ⟨rfl, hb⟩; have HB2 := Aside0.mk (below_step HB1.out hb); have K2 := Aside0.mk (blk_below K1.out hb); clear hb p0 p1 p2; have q0 := (blk_cell K2.out 0).trans rfl; have q1 := (blk_cell K2.out 1).trans rfl; have q2 := (blk_cell K2.out 2).trans rfl) | (go_at_call 27; (with_reducible refine (term_Variable.calls x.f0 x.f1 x.f2 (isVar x) _ A2.out).mono ?_); rintro e w3 ⟨rfl, hb⟩; have HB3 := Aside0.mk (below_step HB2.out hb); clear hb) | go_in)
    go_ret
    exact ⟨by rw [E.out]; rfl, HB3.out⟩
def slices_ContainsFunc_bad.f (l : List Tm) : Option Bool := if (l.all okT && decide (l.length < smallN)) = true then some (l.any badT) else none
def slices_ContainsFunc_var.f (l : List Tm) : Option Bool := if (l.all okT && decide (l.length < smallN)) = true then some (l.any isVar) else none
def slices_CompareFunc_term.f (l m : List Tm) : Option Int := if (l.all okT && (m.all okT && decide (l.length < smallN))) = true then some (cmpL cmpT l m) else none
theorem slices_ContainsFunc_bad.calls (A0 : Option Addr) (c0 : Nat) (l0 : List Tm) (r : Bool) (w : World) (hr0 : Kd.C k23 w A0 l0.length l0) (hc0 : l0.length ≤ c0) (h : slices_ContainsFunc_bad.f l0 = some r) :
    Calls Tryd.prog 70 #[.slice A0 l0.length c0, .func (.func 71) #[] #[]] w fun e w' => e = .returned (.bool r) ∧ Below w.heap.size w w' := by
  unfold slices_ContainsFunc_bad.f at h
  by_cases hc : (l0.all okT && decide (l0.length < smallN)) = true
  · rw [if_pos hc] at h
    obtain rfl := Option.some.inj h
    simp only [Bool.and_eq_true, decide_eq_true_eq] at hc
    exact hasF_calls badT 71 (enters_of Tryd.func71 (by kernel_rfl) rfl) A0 c0 l0 w hr0 hc0 hc.1 hc.2 (fun x W _ _ => bad_calls x W)
  · rw [if_neg hc] at h; cases h
theorem slices_ContainsFunc_var.calls (A0 : Option Addr) (c0 : Nat) (l0 : List Tm) (r : Bool) (w : World) (hr0 : Kd.C k23 w A0 l0.length l0) (hc0 : l0.length ≤ c0) (h : slices_ContainsFunc_var.f l0 = some r) :
    Calls Tryd.prog 70 #[.slice A0 l0.length c0, .func (.func 27) #[] #[]] w fun e w' => e = .returned (.bool r) ∧ Below w.heap.size w w' := by
  unfold slices_ContainsFunc_var.f at h
  by_cases hc : (l0.all okT && decide (l0.length < smallN)) = true
  · rw [if_pos hc] at h
    obtain rfl := Option.some.inj h
    simp only [Bool.and_eq_true, decide_eq_true_eq] at hc
    exact hasF_calls isVar 27 (enters_of Tryd.func27 (by kernel_rfl) rfl) A0 c0 l0 w hr0 hc0 hc.1 hc.2 (fun x W _ _ => term_Variable.calls x.f0 x.f1 x.f2 (isVar x) W (var_f x))
  · rw [if_neg hc] at h; cases h
theorem slices_CompareFunc_term.calls (A0 : Option Addr) (c0 : Nat) (l0 : List Tm) (A1 : Option Addr) (c1 : Nat) (l1 : List Tm) (r : Int) (w : World) (hr0 : Kd.C k23 w A0 l0.length l0) (hc0 : l0.length ≤ c0) (hr1 : Kd.C k23 w A1 l1.length l1) (hc1 : l1.length ≤ c1) (h : slices_CompareFunc_term.f l0 l1 = some r) :
    Calls Tryd.prog 77 #[.slice A0 l0.length c0, .slice A1 l1.length c1, .func (.func 67) #[] #[]] w fun e w' => e = .returned (.int .i64 r) ∧ Below w.heap.size w w' := by
  unfold slices_CompareFunc_term.f at h
  by_cases hc : (l0.all okT && (l1.all okT && decide (l0.length < smallN))) = true
  · rw [if_pos hc] at h
    obtain rfl := Option.some.inj h
    simp only [Bool.and_eq_true, decide_eq_true_eq] at hc
    exact cmpF_calls cmpT 67 (enters_of Tryd.func67 (by kernel_rfl) rfl) A0 c0 l0 A1 c1 l1 w hr0 hc0 hr1 hc1 hc.1 hc.2.1 hc.2.2 (fun x y W _ _ _ => term_Compare.calls 4 x.f0 x.f1 x.f2 y.f0 y.f1 y.f2 (cmpT x y) W (cmpT_f x y 0))
  · rw [if_neg hc] at h; cases h
end Go.Proofs.YtnomgmlfagiffaaDoor.T
