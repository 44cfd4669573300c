/- T7; GLend; GCRAtom; GCRead; GCRead2: texts of this claim, laid together. -/
import Derived.Test.YtdplpcedfkfajaaDoorM0Ca
import Derived.Test.YtdplpcedfkfajaaDoorM5Ca
import Derived.Test.YtdplpcedfkfajaaDoorM6Ca
import Derived.Test.YtdplpcedfkfajaaDoorM1Ca
import Derived.Test.YtdplpcedfkfajaaDoorM4Ca
import Derived.Defers
import Derived.Recover
import Derived.Laws.Pointers
-- By a program of this session (wip/tools/myprint.py), out of the translation.
namespace Go.Proofs.YtdplpcedfkfajaaDoor.T
open Go.RowKit Go.Proofs.YtdplpcedfkfajaaDoorW.PrintWords Go.Proofs.YtdplpcedfkfajaaDoorW.PrintLast Go.Proofs.YtdplpcedfkfajaaDoorW.PrintMore
attribute [local go_sem] max2_int min2_int max_two min_two max_three min_three max_four min_four   -- for this text's walks alone
set_option linter.unusedVariables false
set_option linter.unusedSimpArgs false

attribute [local go_sem high] eqA23
-- NOT PRINTED: function 74 (hearsayref06_Reader_take)

-- NOT PRINTED: function 98 (hearsayref06_Reader_number)

-- NOT PRINTED: function 73 (hearsayref06_Reader_small)

-- NOT PRINTED: function 99 (hearsayref06_Reader_text)

-- NOT PRINTED: function 100 (hearsayref06_Reader_natural)

-- NOT PRINTED: function 72 (hearsayref06_Reader_term)

-- NOT PRINTED: function 33 (hearsayref06_Reader_atom)

-- NOT PRINTED: function 12 (hearsayref06_ReadAtom)

def hearsayref03_SameAtom.f (k : Nat) (a0_0 : Int) (a0_1 : Int) (a0_2 : ByteArray) (a0_3 : ByteArray) (l0_4 : List (S23)) (a1_0 : Int) (a1_1 : Int) (a1_2 : ByteArray) (a1_3 : ByteArray) (l1_4 : List (S23)) : Option (Bool) := if (a0_0 == a1_0 && (a0_1 == a1_1 && (a0_2.toList == a1_2.toList))) = true then (if a0_3.toList = a1_3.toList then ((hearsayref03_SameTerms.f k l0_4 l1_4).bind fun t221 => (some t221)) else (some false)) else (some false)
set_option maxHeartbeats 8000000 in
set_option maxRecDepth 100000 in
theorem hearsayref03_SameAtom.calls (k : Nat) (a0_0 : Int) (a0_1 : Int) (a0_2 : ByteArray) (a0_3 : ByteArray) (A0_4 : Option Addr) (c0_4 : Nat) (l0_4 : List (S23)) (a1_0 : Int) (a1_1 : Int) (a1_2 : ByteArray) (a1_3 : ByteArray) (A1_4 : Option Addr) (c1_4 : Nat) (l1_4 : List (S23)) (r : Bool) (w : World) (hr0_4 : Kd.C k23 w A0_4 l0_4.length l0_4) (hc0_4 : l0_4.length ≤ c0_4) (hr1_4 : Kd.C k23 w A1_4 l1_4.length l1_4) (hc1_4 : l1_4.length ≤ c1_4) (h : hearsayref03_SameAtom.f k a0_0 a0_1 a0_2 a0_3 l0_4 a1_0 a1_1 a1_2 a1_3 l1_4 = some r) :
    Calls Tryd.prog 13 #[.agg #[.int .i64 a0_0, .int .i64 a0_1, .string a0_2, .string a0_3, .slice A0_4 l0_4.length c0_4], .agg #[.int .i64 a1_0, .int .i64 a1_1, .string a1_2, .string a1_3, .slice A1_4 l1_4.length c1_4]] w fun e w' => e = .returned (.bool r) ∧ Below w.heap.size w w' := by
  have hu26 := Tryd.underlying26
  have hu23 := Tryd.underlying23
  have HR0_4 := Aside0.mk hr0_4
  have HC0_4 := Aside0.mk hc0_4
  clear hr0_4 hc0_4
  have HR1_4 := Aside0.mk hr1_4
  have HC1_4 := Aside0.mk hc1_4
  clear hr1_4 hc1_4
  have HB := Aside0.mk (Below.refl w.heap.size w)
  have H : (if (a0_0 == a1_0 && (a0_1 == a1_1 && (a0_2.toList == a1_2.toList))) = true then (if a0_3.toList = a1_3.toList then ((hearsayref03_SameTerms.f k l0_4 l1_4).bind fun t221 => (some t221)) else (some false)) else (some false)) = some r := h
  clear h
  by_cases c3 : (a0_0 == a1_0 && (a0_1 == a1_1 && (a0_2.toList == a1_2.toList))) = true
  · rw [if_pos c3] at H
    have c3b0 : (a0_0 == a1_0 && (a0_1 == a1_1 && (a0_2.toList == a1_2.toList))) = true := c3
    (try (have c3b1 : decide (a0_0 = a1_0 && (a0_1 == a1_1 && (a0_2.toList == a1_2.toList))) = true := by simpa using c3))
    (try (have c3b2 : (a0_0 == a1_0 && (a0_1 == a1_1 && (a0_2.toList == a1_2.toList))) = true := by simpa using c3))
    clear c3
    by_cases c4 : a0_3.toList = a1_3.toList
    · rw [if_pos c4] at H
      have c4b0 : (a0_3.toList == a1_3.toList) = true := beq_iff_eq.mpr c4
      have c4b1 : (a0_3.toList != a1_3.toList) = false := bne_eq_false_iff_eq.mpr c4
      clear c4
      replace H := Option.bind_eq_some_iff.mp H
      obtain ⟨t221, A50, H⟩ := H
      replace H : (some t221) = some r := H
      have A5 := Aside0.mk A50
      clear A50
      obtain rfl := Option.some.inj H
      go_enter Tryd.func13, Tryd.ntmps13
      go_wp2_with (first | ((with_reducible refine gate_dst (N := 2) rfl ?_); refine box_event ?hg (N := 2) ?hd (cs := #[.int .i64 a0_0, .int .i64 a0_1, .string a0_2, .string a0_3, .slice A0_4 l0_4.length c0_4]) (t := 26) ?hr ?_; (case hd => rfl); (case hg => rfl); (case hr => first | (go_simp; done) | (go_simp; rfl)); intro gb219 hg w6 hbox hb; have n0_ := Aside0.mk (below_step (by repeat (first | (with_reducible first | exact HB.out | apply below_alloc | apply pw_below_drewN | apply below_drew1) | exact HB.out)) hb); have n1_ := Aside0.mk (hbox); have n2_ := Aside0.mk ((by rw [hg]; exact (below_size (by repeat (first | (with_reducible first | exact HB.out | apply below_alloc | apply pw_below_drewN | apply below_drew1) | exact HB.out))) : w.heap.size ≤ gb219)); have n3_ := Aside0.mk ((by rw [hg]; exact (below_size (by repeat (first | (with_reducible first | exact HB.out | apply below_alloc | apply pw_below_drewN | apply below_drew1) | exact HB.out))) : w.heap.size ≤ gb219)); clear HB; have HB := n0_; have BK219 := n1_; have GW219 := n2_; have GE219 := n3_; clear n0_ n1_ n2_ n3_; clear hb hbox hg) | ((with_reducible refine gate_dst (N := 3) rfl ?_); refine box_event ?hg (N := 3) ?hd (cs := #[.int .i64 a1_0, .int .i64 a1_1, .string a1_2, .string a1_3, .slice A1_4 l1_4.length c1_4]) (t := 26) ?hr ?_; (case hd => rfl); (case hg => rfl); (case hr => first | (go_simp; done) | (go_simp; rfl)); intro gb220 hg w7 hbox hb; have n0_ := Aside0.mk (blk_below (g := gb219) (o := .cells #[.int .i64 a0_0, .int .i64 a0_1, .string a0_2, .string a0_3, .slice A0_4 l0_4.length c0_4] 26 (0, 0)) (by (with_reducible repeat (first | refine blk_drewN ?_ _ | refine blk_drew ?_ | refine blk_alloc ?_ _)); exact BK219.out) hb); have n1_ := Aside0.mk (below_step (by repeat (first | (with_reducible first | exact HB.out | apply below_alloc | apply pw_below_drewN | apply below_drew1 | refine below_set ?_ GE219.out) | exact HB.out)) hb); have n2_ := Aside0.mk (hbox); have n3_ := Aside0.mk ((by rw [hg]; exact (below_size (by repeat (first | (with_reducible first | exact HB.out | apply below_alloc | apply pw_below_drewN | apply below_drew1 | refine below_set ?_ GE219.out) | exact HB.out))) : w.heap.size ≤ gb220)); have n4_ := Aside0.mk ((by rw [hg]; exact (below_size (by repeat (first | (with_reducible first | exact HB.out | apply below_alloc | apply pw_below_drewN | apply below_drew1 | refine below_set ?_ GE219.out) | exact HB.out))) : w.heap.size ≤ gb220)); have n5_ := Aside0.mk ((by rw [hg]; exact Nat.ne_of_lt (blk_lt (g := gb219) (o := .cells #[.int .i64 a0_0, .int .i64 a0_1, .string a0_2, .string a0_3, .slice A0_4 l0_4.length c0_4] 26 (0, 0)) (by (with_reducible repeat (first | refine blk_drewN ?_ _ | refine blk_drew ?_ | refine blk_alloc ?_ _)); exact BK219.out)) : gb219 ≠ gb220)); have n6_ := Aside0.mk ((by rw [hg]; exact Nat.ne_of_gt (blk_lt (g := gb219) (o := .cells #[.int .i64 a0_0, .int .i64 a0_1, .string a0_2, .string a0_3, .slice A0_4 l0_4.length c0_4] 26 (0, 0)) (by (with_reducible repeat (first | refine blk_drewN ?_ _ | refine blk_drew ?_ | refine blk_alloc ?_ _)); exact BK219.out)) : gb220 ≠ gb219)); clear BK219; clear HB; have BK219 := n0_; have HB := n1_; have BK220 := n2_; have GW220 := n3_; have GE220 := n4_; have NB219_220 := n5_; have NB220_219 := n6_; clear n0_ n1_ n2_ n3_ n4_ n5_ n6_; clear hb hbox hg; have hnb8 := NB219_220.out; have hnc8 := NB220_219.out; have hcz9_0 : w7.cell? ⟨gb219, 0, none⟩ = some (.int .i64 a0_0) := (blk_cell BK219.out 0).trans rfl; have hcz9_1 : w7.cell? ⟨gb219, 1, none⟩ = some (.int .i64 a0_1) := (blk_cell BK219.out 1).trans rfl; have hcz9_2 : w7.cell? ⟨gb219, 2, none⟩ = some (.string a0_2) := (blk_cell BK219.out 2).trans rfl; have hcz9_3 : w7.cell? ⟨gb219, 3, none⟩ = some (.string a0_3) := (blk_cell BK219.out 3).trans rfl; have hcz9_4 : w7.cell? ⟨gb219, 4, none⟩ = some (.slice A0_4 l0_4.length c0_4) := (blk_cell BK219.out 4).trans rfl; have hfz9_0 := blk_frozen BK219.out 0; have hfz9_1 := blk_frozen BK219.out 1; have hfz9_2 := blk_frozen BK219.out 2; have hfz9_3 := blk_frozen BK219.out 3; have hfz9_4 := blk_frozen BK219.out 4; have hcz10_0 : w7.cell? ⟨gb220, 0, none⟩ = some (.int .i64 a1_0) := (blk_cell BK220.out 0).trans rfl; have hcz10_1 : w7.cell? ⟨gb220, 1, none⟩ = some (.int .i64 a1_1) := (blk_cell BK220.out 1).trans rfl; have hcz10_2 : w7.cell? ⟨gb220, 2, none⟩ = some (.string a1_2) := (blk_cell BK220.out 2).trans rfl; have hcz10_3 : w7.cell? ⟨gb220, 3, none⟩ = some (.string a1_3) := (blk_cell BK220.out 3).trans rfl; have hcz10_4 : w7.cell? ⟨gb220, 4, none⟩ = some (.slice A1_4 l1_4.length c1_4) := (blk_cell BK220.out 4).trans rfl; have hfz10_0 := blk_frozen BK220.out 0; have hfz10_1 := blk_frozen BK220.out 1; have hfz10_2 := blk_frozen BK220.out 2; have hfz10_3 := blk_frozen BK220.out 3; have hfz10_4 := blk_frozen BK220.out 4) | (go_at_call 35; (with_reducible refine (hearsayref03_SameTerms.calls k _ _ l0_4 _ _ l1_4 t221 _ ?side1 ?side2 ?side3 ?side4 A5.out).mono ?_); (case side1 => repeat (first | exact (Kd.C_below HR0_4.out HB.out) | (with_reducible refine Kd.C_alloc ?_ _) | (with_reducible refine Kd.C_drewN ?_ _) | (with_reducible refine Kd.C_drew ?_))); (case side2 => exact HC0_4.out); (case side3 => repeat (first | exact (Kd.C_below HR1_4.out HB.out) | (with_reducible refine Kd.C_alloc ?_ _) | (with_reducible refine Kd.C_drewN ?_ _) | (with_reducible refine Kd.C_drew ?_))); (case side4 => exact HC1_4.out); rintro e w' ⟨rfl, ⟨nd, rfl⟩⟩))
      go_ret
      exact ⟨by first | rfl | (simp [errW_none, errW_some] <;> rfl) | (simp [errW_none, errW_some, bne, show ∀ l_ : List UInt8, (l_ == []) = l_.isEmpty from fun l_ => by cases l_ <;> rfl]; done) | (simp [*, errW_none, errW_some] <;> rfl), by repeat (first | (with_reducible first | exact HB.out | apply below_alloc | apply pw_below_drewN | apply below_drew1 | refine below_set ?_ GE219.out | refine below_set ?_ GE220.out) | exact HB.out)⟩
    · rw [if_neg c4] at H
      have c4b0 : (a0_3.toList == a1_3.toList) = false := beq_eq_false_iff_ne.mpr c4
      have c4b1 : (a0_3.toList != a1_3.toList) = true := bne_iff_ne.mpr c4
      obtain rfl := Option.some.inj H
      go_enter Tryd.func13, Tryd.ntmps13
      go_wp2_with (first | ((with_reducible refine gate_dst (N := 2) rfl ?_); refine box_event ?hg (N := 2) ?hd (cs := #[.int .i64 a0_0, .int .i64 a0_1, .string a0_2, .string a0_3, .slice A0_4 l0_4.length c0_4]) (t := 26) ?hr ?_; (case hd => rfl); (case hg => rfl); (case hr => first | (go_simp; done) | (go_simp; rfl)); intro gb219 hg w11 hbox hb; have n0_ := Aside0.mk (below_step (by repeat (first | (with_reducible first | exact HB.out | apply below_alloc | apply pw_below_drewN | apply below_drew1) | exact HB.out)) hb); have n1_ := Aside0.mk (hbox); have n2_ := Aside0.mk ((by rw [hg]; exact (below_size (by repeat (first | (with_reducible first | exact HB.out | apply below_alloc | apply pw_below_drewN | apply below_drew1) | exact HB.out))) : w.heap.size ≤ gb219)); have n3_ := Aside0.mk ((by rw [hg]; exact (below_size (by repeat (first | (with_reducible first | exact HB.out | apply below_alloc | apply pw_below_drewN | apply below_drew1) | exact HB.out))) : w.heap.size ≤ gb219)); clear HB; have HB := n0_; have BK219 := n1_; have GW219 := n2_; have GE219 := n3_; clear n0_ n1_ n2_ n3_; clear hb hbox hg) | ((with_reducible refine gate_dst (N := 3) rfl ?_); refine box_event ?hg (N := 3) ?hd (cs := #[.int .i64 a1_0, .int .i64 a1_1, .string a1_2, .string a1_3, .slice A1_4 l1_4.length c1_4]) (t := 26) ?hr ?_; (case hd => rfl); (case hg => rfl); (case hr => first | (go_simp; done) | (go_simp; rfl)); intro gb220 hg w12 hbox hb; have n0_ := Aside0.mk (blk_below (g := gb219) (o := .cells #[.int .i64 a0_0, .int .i64 a0_1, .string a0_2, .string a0_3, .slice A0_4 l0_4.length c0_4] 26 (0, 0)) (by (with_reducible repeat (first | refine blk_drewN ?_ _ | refine blk_drew ?_ | refine blk_alloc ?_ _)); exact BK219.out) hb); have n1_ := Aside0.mk (below_step (by repeat (first | (with_reducible first | exact HB.out | apply below_alloc | apply pw_below_drewN | apply below_drew1 | refine below_set ?_ GE219.out) | exact HB.out)) hb); have n2_ := Aside0.mk (hbox); have n3_ := Aside0.mk ((by rw [hg]; exact (below_size (by repeat (first | (with_reducible first | exact HB.out | apply below_alloc | apply pw_below_drewN | apply below_drew1 | refine below_set ?_ GE219.out) | exact HB.out))) : w.heap.size ≤ gb220)); have n4_ := Aside0.mk ((by rw [hg]; exact (below_size (by repeat (first | (with_reducible first | exact HB.out | apply below_alloc | apply pw_below_drewN | apply below_drew1 | refine below_set ?_ GE219.out) | exact HB.out))) : w.heap.size ≤ gb220)); have n5_ := Aside0.mk ((by rw [hg]; exact Nat.ne_of_lt (blk_lt (g := gb219) (o := .cells #[.int .i64 a0_0, .int .i64 a0_1, .string a0_2, .string a0_3, .slice A0_4 l0_4.length c0_4] 26 (0, 0)) (by (with_reducible repeat (first | refine blk_drewN ?_ _ | refine blk_drew ?_ | refine blk_alloc ?_ _)); exact BK219.out)) : gb219 ≠ gb220)); have n6_ := Aside0.mk ((by rw [hg]; exact Nat.ne_of_gt (blk_lt (g := gb219) (o := .cells #[.int .i64 a0_0, .int .i64 a0_1, .string a0_2, .string a0_3, .slice A0_4 l0_4.length c0_4] 26 (0, 0)) (by (with_reducible repeat (first | refine blk_drewN ?_ _ | refine blk_drew ?_ | refine blk_alloc ?_ _)); exact BK219.out)) : gb220 ≠ gb219)); clear BK219; clear HB; have BK219 := n0_; have HB := n1_; have BK220 := n2_; have GW220 := n3_; have GE220 := n4_; have NB219_220 := n5_; have NB220_219 := n6_; clear n0_ n1_ n2_ n3_ n4_ n5_ n6_; clear hb hbox hg; have hnb13 := NB219_220.out; have hnc13 := NB220_219.out; have hcz14_0 : w12.cell? ⟨gb219, 0, none⟩ = some (.int .i64 a0_0) := (blk_cell BK219.out 0).trans rfl; have hcz14_1 : w12.cell? ⟨gb219, 1, none⟩ = some (.int .i64 a0_1) := (blk_cell BK219.out 1).trans rfl; have hcz14_2 : w12.cell? ⟨gb219, 2, none⟩ = some (.string a0_2) := (blk_cell BK219.out 2).trans rfl; have hcz14_3 : w12.cell? ⟨gb219, 3, none⟩ = some (.string a0_3) := (blk_cell BK219.out 3).trans rfl; have hcz14_4 : w12.cell? ⟨gb219, 4, none⟩ = some (.slice A0_4 l0_4.length c0_4) := (blk_cell BK219.out 4).trans rfl; have hfz14_0 := blk_frozen BK219.out 0; have hfz14_1 := blk_frozen BK219.out 1; have hfz14_2 := blk_frozen BK219.out 2; have hfz14_3 := blk_frozen BK219.out 3; have hfz14_4 := blk_frozen BK219.out 4; have hcz15_0 : w12.cell? ⟨gb220, 0, none⟩ = some (.int .i64 a1_0) := (blk_cell BK220.out 0).trans rfl; have hcz15_1 : w12.cell? ⟨gb220, 1, none⟩ = some (.int .i64 a1_1) := (blk_cell BK220.out 1).trans rfl; have hcz15_2 : w12.cell? ⟨gb220, 2, none⟩ = some (.string a1_2) := (blk_cell BK220.out 2).trans rfl; have hcz15_3 : w12.cell? ⟨gb220, 3, none⟩ = some (.string a1_3) := (blk_cell BK220.out 3).trans rfl; have hcz15_4 : w12.cell? ⟨gb220, 4, none⟩ = some (.slice A1_4 l1_4.length c1_4) := (blk_cell BK220.out 4).trans rfl; have hfz15_0 := blk_frozen BK220.out 0; have hfz15_1 := blk_frozen BK220.out 1; have hfz15_2 := blk_frozen BK220.out 2; have hfz15_3 := blk_frozen BK220.out 3; have hfz15_4 := blk_frozen BK220.out 4))
      go_ret
      exact ⟨by first | rfl | (simp [errW_none, errW_some] <;> rfl) | (simp [errW_none, errW_some, bne, show ∀ l_ : List UInt8, (l_ == []) = l_.isEmpty from fun l_ => by cases l_ <;> rfl]; done) | (simp [*, errW_none, errW_some] <;> rfl), by repeat (first | (with_reducible first | exact HB.out | apply below_alloc | apply pw_below_drewN | apply below_drew1 | refine below_set ?_ GE219.out | refine below_set ?_ GE220.out) | exact HB.out)⟩
  · rw [if_neg c3] at H
    have c3b0 : (a0_0 == a1_0 && (a0_1 == a1_1 && (a0_2.toList == a1_2.toList))) = false := by simpa using c3
    (try (have c3b1 : decide (a0_0 = a1_0 && (a0_1 == a1_1 && (a0_2.toList == a1_2.toList))) = false := by simpa using c3))
    (try (have c3b2 : (a0_0 == a1_0 && (a0_1 == a1_1 && (a0_2.toList == a1_2.toList))) = false := by simpa using c3))
    (try (have c3b3 : ¬ (a0_0 = a1_0 && (a0_1 == a1_1 && (a0_2.toList == a1_2.toList))) := by simpa using c3))
    clear c3
    obtain rfl := Option.some.inj H
    go_enter Tryd.func13, Tryd.ntmps13
    go_wp2_with (first | ((with_reducible refine gate_dst (N := 2) rfl ?_); refine box_event ?hg (N := 2) ?hd (cs := #[.int .i64 a0_0, .int .i64 a0_1, .string a0_2, .string a0_3, .slice A0_4 l0_4.length c0_4]) (t := 26) ?hr ?_; (case hd => rfl); (case hg => rfl); (case hr => first | (go_simp; done) | (go_simp; rfl)); intro gb219 hg w16 hbox hb; have n0_ := Aside0.mk (below_step (by repeat (first | (with_reducible first | exact HB.out | apply below_alloc | apply pw_below_drewN | apply below_drew1) | exact HB.out)) hb); have n1_ := Aside0.mk (hbox); have n2_ := Aside0.mk ((by rw [hg]; exact (below_size (by repeat (first | (with_reducible first | exact HB.out | apply below_alloc | apply pw_below_drewN | apply below_drew1) | exact HB.out))) : w.heap.size ≤ gb219)); have n3_ := Aside0.mk ((by rw [hg]; exact (below_size (by repeat (first | (with_reducible first | exact HB.out | apply below_alloc | apply pw_below_drewN | apply below_drew1) | exact HB.out))) : w.heap.size ≤ gb219)); clear HB; have HB := n0_; have BK219 := n1_; have GW219 := n2_; have GE219 := n3_; clear n0_ n1_ n2_ n3_; clear hb hbox hg) | ((with_reducible refine gate_dst (N := 3) rfl ?_); refine box_event ?hg (N := 3) ?hd (cs := #[.int .i64 a1_0, .int .i64 a1_1, .string a1_2, .string a1_3, .slice A1_4 l1_4.length c1_4]) (t := 26) ?hr ?_; (case hd => rfl); (case hg => rfl); (case hr => first | (go_simp; done) | (go_simp; rfl)); intro gb220 hg w17 hbox hb; have n0_ := Aside0.mk (blk_below (g := gb219) (o := .cells #[.int .i64 a0_0, .int .i64 a0_1, .string a0_2, .string a0_3, .slice A0_4 l0_4.length c0_4] 26 (0, 0)) (by (with_reducible repeat (first | refine blk_drewN ?_ _ | refine blk_drew ?_ | refine blk_alloc ?_ _)); exact BK219.out) hb); have n1_ := Aside0.mk (below_step (by repeat (first | (with_reducible first | exact HB.out | apply below_alloc | apply pw_below_drewN | apply below_drew1 | refine below_set ?_ GE219.out) | exact HB.out)) hb); have n2_ := Aside0.mk (hbox); have n3_ := Aside0.mk ((by rw [hg]; exact (below_size (by repeat (first | (with_reducible first | exact HB.out | apply below_alloc | apply pw_below_drewN | apply below_drew1 | refine below_set ?_ GE219.out) | exact HB.out))) : w.heap.size ≤ gb220)); have n4_ := Aside0.mk ((by rw [hg]; exact (below_size (by repeat (first | (with_reducible first | exact HB.out | apply below_alloc | apply pw_below_drewN | apply below_drew1 | refine below_set ?_ GE219.out) | exact HB.out))) : w.heap.size ≤ gb220)); have n5_ := Aside0.mk ((by rw [hg]; exact Nat.ne_of_lt (blk_lt (g := gb219) (o := .cells #[.int .i64 a0_0, .int .i64 a0_1, .string a0_2, .string a0_3, .slice A0_4 l0_4.length c0_4] 26 (0, 0)) (by (with_reducible repeat (first | refine blk_drewN ?_ _ | refine blk_drew ?_ | refine blk_alloc ?_ _)); exact BK219.out)) : gb219 ≠ gb220)); have n6_ := Aside0.mk ((by rw [hg]; exact Nat.ne_of_gt (blk_lt (g := gb219) (o := .cells #[.int .i64 a0_0, .int .i64 a0_1, .string a0_2, .string a0_3, .slice A0_4 l0_4.length c0_4] 26 (0, 0)) (by (with_reducible repeat (first | refine blk_drewN ?_ _ | refine blk_drew ?_ | refine blk_alloc ?_ _)); exact BK219.out)) : gb220 ≠ gb219)); clear BK219; clear HB; have BK219 := n0_; have HB := n1_; have BK220 := n2_; have GW220 := n3_; have GE220 := n4_; have NB219_220 := n5_; have NB220_219 := n6_; clear n0_ n1_ n2_ n3_ n4_ n5_ n6_; clear hb hbox hg; have hnb18 := NB219_220.out; have hnc18 := NB220_219.out; have hcz19_0 : w17.cell? ⟨gb219, 0, none⟩ = some (.int .i64 a0_0) := (blk_cell BK219.out 0).trans rfl; have hcz19_1 : w17.cell? ⟨gb219, 1, none⟩ = some (.int .i64 a0_1) := (blk_cell BK219.out 1).trans rfl; have hcz19_2 : w17.cell? ⟨gb219, 2, none⟩ = some (.string a0_2) := (blk_cell BK219.out 2).trans rfl; have hcz19_3 : w17.cell? ⟨gb219, 3, none⟩ = some (.string a0_3) := (blk_cell BK219.out 3).trans rfl; have hcz19_4 : w17.cell? ⟨gb219, 4, none⟩ = some (.slice A0_4 l0_4.length c0_4) := (blk_cell BK219.out 4).trans rfl; have hfz19_0 := blk_frozen BK219.out 0; have hfz19_1 := blk_frozen BK219.out 1; have hfz19_2 := blk_frozen BK219.out 2; have hfz19_3 := blk_frozen BK219.out 3; have hfz19_4 := blk_frozen BK219.out 4; have hcz20_0 : w17.cell? ⟨gb220, 0, none⟩ = some (.int .i64 a1_0) := (blk_cell BK220.out 0).trans rfl; have hcz20_1 : w17.cell? ⟨gb220, 1, none⟩ = some (.int .i64 a1_1) := (blk_cell BK220.out 1).trans rfl; have hcz20_2 : w17.cell? ⟨gb220, 2, none⟩ = some (.string a1_2) := (blk_cell BK220.out 2).trans rfl; have hcz20_3 : w17.cell? ⟨gb220, 3, none⟩ = some (.string a1_3) := (blk_cell BK220.out 3).trans rfl; have hcz20_4 : w17.cell? ⟨gb220, 4, none⟩ = some (.slice A1_4 l1_4.length c1_4) := (blk_cell BK220.out 4).trans rfl; have hfz20_0 := blk_frozen BK220.out 0; have hfz20_1 := blk_frozen BK220.out 1; have hfz20_2 := blk_frozen BK220.out 2; have hfz20_3 := blk_frozen BK220.out 3; have hfz20_4 := blk_frozen BK220.out 4))
    go_ret
    exact ⟨by first | rfl | (simp [errW_none, errW_some] <;> rfl) | (simp [errW_none, errW_some, bne, show ∀ l_ : List UInt8, (l_ == []) = l_.isEmpty from fun l_ => by cases l_ <;> rfl]; done) | (simp [*, errW_none, errW_some] <;> rfl), by repeat (first | (with_reducible first | exact HB.out | apply below_alloc | apply pw_below_drewN | apply below_drew1 | refine below_set ?_ GE219.out | refine below_set ?_ GE220.out) | exact HB.out)⟩

-- NOT PRINTED: function 14 (hearsaylaw06_kept)

-- NOT PRINTED: function 57 (term_CheckAtom_1)

end Go.Proofs.YtdplpcedfkfajaaDoor.T
/- LendTerms, LendAtom, lend: copies with something of ours in the room behind; KeptTerms, KeptAtom, kept: are they as they were. -/
set_option linter.unusedVariables false
set_option linter.unusedSimpArgs false
namespace Go.Proofs.YtdplpcedfkfajaaDoor.T
open Go.RowKit Go.Proofs.YtdplpcedfkfajaaDoorW.PrintWords Go.Proofs.YtdplpcedfkfajaaDoorW.PrintLast
attribute [local go_sem high] eqA23
def behindT : Tm := ⟨901, 902, ⟨#[98, 101, 104, 105, 110, 100]⟩⟩
set_option maxHeartbeats 4000000 in
set_option maxRecDepth 100000 in
theorem lendTerms_calls (A0 : Option Addr) (c0 : Nat) (l : List Tm) (w : World) (hr0 : Kd.C k23 w A0 l.length l) (hc0 : l.length ≤ c0) (hLD : Laid1 w) (ls : l.length < smallN) :
    Calls Tryd.prog 25 #[.slice A0 l.length c0] w fun e w' => ∃ g c, e = .returned (.slice (some ⟨g, 0, none⟩) l.length c) ∧ Kd.R k23 23 w' w.heap.size (fun _ => True) (.slice (some ⟨g, 0, none⟩) (l.length + 1) c) (l ++ [behindT]) ∧ Below w.heap.size w w' := by
  have hu23 := Tryd.underlying23
  have HLD := Aside0.mk hLD
  have HR0 := Aside0.mk hr0
  have HC0 := Aside0.mk hc0
  have HS := Aside0.mk ls
  have hw64 : wrap64 (l.length : Int) = (l.length : Int) := by simp [smallN] at ls; unfold wrap64; omega
  clear hLD hr0 hc0 ls
  go_enter Tryd.func25, Tryd.ntmps25
  go_wp2_with (first
    | ((with_reducible refine gate_builtin (b := .append) (xs := #[.tmp 4, .tmp 5]) rfl ?_); at_builtin; refine Kd.R_append_rows k23 (w0 := w) w.heap.size rfl (.tmp 4) (.tmp 5) 24 23 (.agg #[(.int .i64 0), (.int .i64 0), (.string ⟨#[]⟩)]) 32 rfl Tryd.underlying24 infoTm rfl (by decide) (by omega) (.slice none 0 0) ([] : List Tm) l _ _ _ (fun _ => True) (fun _ => False) rfl rfl (Kd.R_nil _ _ _ _ (fun _ => True)) HR0.out (fun _ _ h => h) (fun _ h => h.elim) (fun _ _ => trivial) (Below.refl _ w) (Nat.le_refl _) (by have := HS.out; simp [smallN] at this; simp; omega) ?_; intro v1 w1 ho hb hg hat; have HO1 := Aside0.mk ho; have HB1 := Aside0.mk hb; clear ho hb hg hat; have hg0 : w1.cell? ⟨1, 0, none⟩ = some (.int .i64 901) := (Laid1.up HLD.out HB1.out).1; have hg1 : w1.cell? ⟨1, 1, none⟩ = some (.int .i64 902) := (Laid1.up HLD.out HB1.out).2.1; have hg2 : w1.cell? ⟨1, 2, none⟩ = some (.string (⟨#[98, 101, 104, 105, 110, 100]⟩ : ByteArray)) := (Laid1.up HLD.out HB1.out).2.2)
    | ((with_reducible refine gate_builtin (b := .append) (xs := #[.tmp 7, .tmp 9]) rfl ?_); at_builtin; refine Kd.R_append k23 (w0 := w) w.heap.size rfl (.tmp 7) (.tmp 9) 24 23 (.agg #[(.int .i64 0), (.int .i64 0), (.string ⟨#[]⟩)]) 32 rfl Tryd.underlying24 infoTm rfl (by decide) (by omega) v1 ([] ++ l) behindT [.int .i64 901, .int .i64 902, .string (⟨#[98, 101, 104, 105, 110, 100]⟩ : ByteArray)] (fun _ => True) (fun _ => False) rfl rfl (k23_mkM _ _ _ behindT) (fun _ hk => hk.elim) (fun _ _ => trivial) HO1.out HB1.out HB1.out.size (by have := HS.out; simp [smallN] at this; simp; omega) ?_; intro v2 w2 ho hb hg hat; have HO2 := Aside0.mk ho; have HB2 := Aside0.mk hb; clear ho hb hg hat hg0 hg1 hg2; obtain ⟨g2, c2, e2, hc2, _⟩ := R_head HO2.out (by simp); have hcc : (l.length : Int) ≤ (c2 : Int) := (by simp at hc2; omega); clear hc2; subst e2)
    | go_in)
  go_ret
  refine ⟨g2, c2, rfl, ?_, HB2.out⟩
  have h := HO2.out
  simp only [List.nil_append, List.length_append, List.length_singleton] at h
  exact h
theorem same_terms (s : List Tm) (ls : s.length < smallN) : ∀ k, s.length + 1 ≤ k → hearsayref03_SameTerms.f k s s = some true := by
  intro k hk
  unfold hearsayref03_SameTerms.f
  rw [if_pos rfl]
  suffices h : ∀ (n i k : Nat), s.length = i + n → n + 1 ≤ k → hearsayref03_SameTerms.l0 k s s (i : Int) = some true from h s.length 0 k (by omega) hk
  intro n
  induction n with
  | zero =>
    intro i k hi hk
    obtain ⟨k, rfl⟩ : ∃ m, k = m + 1 := ⟨k - 1, by omega⟩
    rw [hearsayref03_SameTerms.l0, if_neg (by omega)]
  | succ n ih =>
    intro i k hi hk
    obtain ⟨k, rfl⟩ : ∃ m, k = m + 1 := ⟨k - 1, by omega⟩
    rw [hearsayref03_SameTerms.l0, if_pos (by omega), if_pos (by omega), if_pos (by omega), if_neg (by simp), wrap_succ i (by omega)]
    exact ih (i + 1) k (by omega) (by omega)
theorem same_atom (t : Tm) (nm : ByteArray) (l : List Tm) (ls : l.length < smallN) : ∀ k, l.length + 1 ≤ k → hearsayref03_SameAtom.f k t.f0 t.f1 t.f2 nm l t.f0 t.f1 t.f2 nm l = some true := by
  intro k hk
  unfold hearsayref03_SameAtom.f
  rw [if_pos rfl, if_pos (by simp), same_terms l ls k hk]
  rfl
set_option maxHeartbeats 4000000 in
set_option maxRecDepth 100000 in
theorem keptTerms_calls (g c : Nat) (A2 : Option Addr) (c2 : Nat) (l : List Tm) (w : World) (base : Nat) (ok : Nat → Prop) (hR : Kd.R k23 23 w base ok (.slice (some ⟨g, 0, none⟩) (l.length + 1) c) (l ++ [behindT])) (hr2 : Kd.C k23 w A2 l.length l) (hc2 : l.length ≤ c2) (hLD : Laid1 w) (ls : l.length < smallN) :
    Calls Tryd.prog 30 #[.slice (some ⟨g, 0, none⟩) l.length c, .slice A2 l.length c2] w fun e w' => e = .returned (.bool true) ∧ Below w.heap.size w w' := by
  have hu23 := Tryd.underlying23
  obtain ⟨g', c', e1, hcc, _⟩ := R_head hR (by simp)
  injection e1 with e2 _ e3
  injection e2 with e2
  injection e2 with e2
  subst e2 e3
  have hC := R_C' hR
  have hC0 : Kd.C k23 w (some ⟨g, 0, none⟩) l.length l := C_front hC
  have hcc1 : l.length ≤ c := by simp at hcc; omega
  have hcc2 : (l.length : Int) + 1 ≤ (c : Int) := by simp at hcc; omega
  have hb := fun k r W h1 h2 => hearsayref03_SameTerms.calls k (some ⟨g, 0, none⟩) c l A2 c2 l r W h1 hcc1 h2 hc2
  have hbs := same_terms l ls (l.length + 1) (Nat.le_refl _)
  have hbc := hb _ _ w hC0 hr2 hbs
  obtain ⟨ad, ead, hx0, hx1, hx2⟩ := at_T23 hC (l.length : Int) (by omega) (by simp; omega)
  injection ead with ead
  subst ead
  have hrd : rd_T23 (l ++ [behindT]) (l.length : Int) = behindT := by rw [rd_at23 _ _ (by simp)]; simp
  rw [hrd, Int.toNat_natCast] at hx0 hx1 hx2
  rw [add0] at hx0 hx1 hx2
  dsimp only [behindT] at hx0 hx1 hx2
  obtain ⟨N, hN⟩ : ∃ N : Nat, N = l.length + 1 := ⟨_, rfl⟩
  have hw64 : wrap64 ((l.length : Int) + 1) = (N : Int) := by rw [wrap_succ _ ls, hN]
  have hw65 : IntKind.i64.wrap ((l.length : Int) + 1) = (N : Int) := (i64_w _).trans hw64
  have p1 : (0 : Int) ≤ (N : Int) := by omega
  have p2 : (N : Int) ≤ (c : Int) := by omega
  have p3 : (l.length : Int) < (N : Int) := by omega
  have p4 : l.length < N := by omega
  have HN := Aside0.mk hN
  have HLD := Aside0.mk hLD
  clear hN hcc2 hR hr2 hc2 hC hC0 hcc hb hbs hLD hrd hcc1
  have p0 : (0 : Int) ≤ (l.length : Int) := by omega
  go_enter Tryd.func30, Tryd.ntmps30
  go_wp2_with (go_at_call 35; refine hbc.mono ?_; rintro e w1 ⟨rfl, hd⟩; obtain ⟨nd, rfl⟩ := hd.out; clear hd)
  have hg0 : w.cell? ⟨1, 0, none⟩ = some (.int .i64 901) := HLD.out.1
  have hg1 : w.cell? ⟨1, 1, none⟩ = some (.int .i64 902) := HLD.out.2.1
  have hg2 : w.cell? ⟨1, 2, none⟩ = some (.string (⟨#[98, 101, 104, 105, 110, 100]⟩ : ByteArray)) := HLD.out.2.2
  go_region_held3 (fun w' => w'.cell? ⟨g, l.length * 3, none⟩ = some (.int .i64 901) ∧ w'.cell? ⟨g, l.length * 3 + 1, none⟩ = some (.int .i64 902) ∧ w'.cell? ⟨g, l.length * 3 + 2, none⟩ = some (.string (⟨#[98, 101, 104, 105, 110, 100]⟩ : ByteArray)) ∧ w'.cell? ⟨1, 0, none⟩ = some (.int .i64 901) ∧ w'.cell? ⟨1, 1, none⟩ = some (.int .i64 902) ∧ w'.cell? ⟨1, 2, none⟩ = some (.string (⟨#[98, 101, 104, 105, 110, 100]⟩ : ByteArray))) (go_keep) (fail)
  go_wp2
  go_ret
  exact ⟨by first | rfl | simp, by repeat (first | exact Below.refl _ _ | apply pw_below_drewN | apply below_drew1)⟩
end Go.Proofs.YtdplpcedfkfajaaDoor.T
/- The walk of codec's reader of atoms. -/
set_option linter.unusedVariables false
set_option linter.unusedSimpArgs false
namespace Go.Proofs.YtdplpcedfkfajaaDoor.T
open Go.RowKit Go.Proofs.YtdplpcedfkfajaaDoorW.PrintWords Go.Proofs.YtdplpcedfkfajaaDoorW.PrintLast
/-- Is it a predicate's name? -/
def nameOk (s : ByteArray) : Bool := checkA ⟨0, 0, ⟨#[]⟩⟩ s [] == 0
def atomR : Rd (Tm × ByteArray × List Tm) := (termR 13 1).then fun t => (smallR 1 32).then fun n => (takeR n.toNat).then fun b => (needR (nameOk (strOf b)) 63).then fun _ => (smallR 0 8).then fun k => (manyR (termR 14 0) k.toNat).then fun l => Rd.give (t, strOf b, l)
theorem needR_true (e : Int) : needR true e = Rd.give () := rfl
theorem needR_false (e : Int) : needR false e = Rd.fail e := rfl
theorem Rd.then_give {α β : Type} {x : α} {f : α → Rd β} {l : List Int} : ((Rd.give x).then f) l = f x l := rfl
theorem Rd.then_fail {α β : Type} {e : Int} {f : α → Rd β} {l : List Int} : ((Rd.fail e : Rd α).then f) l = .error e := rfl
section
variable {w0 w W W' : World} {rb : Nat} {rest : List Int}
theorem RW.set5 (h : RW w0 w W rb rest) {g : Nat} (hg : w.heap.size ≤ g) {x y z u v : Value} : RW w0 w (((((W.setCell ⟨g, 0, none⟩ x).setCell ⟨g, 1, none⟩ y).setCell ⟨g, 2, none⟩ z).setCell ⟨g, 3, none⟩ u).setCell ⟨g, 4, none⟩ v) rb rest := ((h.set3 hg).set hg 3 u).set hg 4 v
theorem blk5 {g : Nat} {a b c d e x y z u v : Value} {t : TypeId} (hb : W.heap[g]? = some (.cells #[a, b, c, d, e] t (0, 0))) : (((((W.setCell ⟨g, 0, none⟩ x).setCell ⟨g, 1, none⟩ y).setCell ⟨g, 2, none⟩ z).setCell ⟨g, 3, none⟩ u).setCell ⟨g, 4, none⟩ v).heap[g]? = some (.cells #[x, y, z, u, v] t (0, 0)) :=
  blk_set (blk_set (blk_set (blk_set (blk_set hb 0 x) 1 y) 2 z) 3 u) 4 v
theorem far5 {g k : Nat} {o : Array Value} {t : TypeId} {x y z u v : Value} (hb : W.heap[k]? = some (.cells o t (0, 0))) (hne : k ≠ g) : (((((W.setCell ⟨g, 0, none⟩ x).setCell ⟨g, 1, none⟩ y).setCell ⟨g, 2, none⟩ z).setCell ⟨g, 3, none⟩ u).setCell ⟨g, 4, none⟩ v).heap[k]? = some (.cells o t (0, 0)) :=
  far1 (far1 (far3 hb hne) hne) hne
end
/-- An atom that was read: its list is a row of one's own, laid since w. -/
def ValA (w : World) (x : Tm × ByteArray × List Tm) (w' : World) (v : Value) : Prop := ∃ sl, v = .agg #[.int .i64 x.1.f0, .int .i64 x.1.f1, .string x.1.f2, .string x.2.1, sl] ∧ ValL w x.2.2 w' sl
theorem ValL.step {w W W' : World} {l : List Tm} {v : Value} (h : ValL w l W v) (hm : ∀ k, w.heap.size ≤ k → k < W.heap.size → W'.heap[k]? = W.heap[k]?) : ValL w l W' v := Kd.R_step h hm
theorem ValL.far {w W : World} {l : List Tm} {v : Value} (h : ValL w l W v) {g : Nat} (hg : g < w.heap.size) (j : Nat) (u : Value) : ValL w l (W.setCell ⟨g, j, none⟩ u) v := Kd.R_far h (p := ⟨g, j, none⟩) (fun k hk => show k ≠ g by omega) u
theorem ValL.lower {w w2 W : World} {l : List Tm} {v : Value} (h : ValL w2 l W v) (hs : w.heap.size ≤ w2.heap.size) : ValL w l W v := Kd.R_mono (Kd.R_lower h hs) (fun k hk => Nat.le_trans hs hk)
set_option maxHeartbeats 8000000 in
set_option maxRecDepth 100000 in
theorem ratom_calls (w0 w : World) (rb : Nat) (rest : List Int) (hby : isBytes rest) (h : Rst w0 w rb rest) (hLD : Laid2 w0) :
    Calls Tryd.prog 32 #[.pointer (some ⟨rb, 0, none⟩)] w (Reads w0 w rb (atomR rest) (ValA w)) := by
  have hu23 := Tryd.underlying23
  have hu26 := Tryd.underlying26
  have HLD := Aside0.mk hLD
  have HS := Aside0.mk (RW.start h)
  have below_of : ∀ {W : World} {r : List Int}, RW w0 w W rb r → Below w0.heap.size w0 W := fun h => h.st.below
  clear h hLD
  cases hHN1 : termR 13 1 rest with
  | error c =>
    have er : atomR rest = .error c := by unfold atomR; rw [Rd.then_err hHN1]
    rw [er]
    have HN1 := Aside0.mk (show ∀ e w' W, Reads w0 W rb (termR 13 1 rest) (ValT) e w' → e = gaveUp c ∧ KeepBut W w' rb none ∧ Below w0.heap.size w0 w' from fun e w' W hr => by rw [hHN1] at hr; exact hr.nov)
    clear hHN1 er
    go_enter Tryd.func32, Tryd.ntmps32
    go_wp2_with (first
      | ((with_reducible refine gate_dst (N := 2) rfl ?_); refine box_event ?hg (N := 2) ?hd (cs := #[.int .i64 0, .int .i64 0, .string (⟨#[]⟩ : ByteArray), .string (⟨#[]⟩ : ByteArray), .slice none 0 0]) (t := 26) ?hr ?_; (case hd => rfl); (case hg => rfl); (case hr => first | (go_simp; done) | (go_simp; rfl)); intro b2 hb2 wb2 hbox hb; have H1 := Aside0.mk (HS.out.up hb); have B2 := Aside0.mk hbox; have G2 := Aside0.mk (show w.heap.size ≤ b2 by have := (HS.out.keep).1; omega); clear hb2 hbox hb; have q20 := (blk_cell B2.out 0).trans rfl; have z20 := blk_frozen B2.out 0; have q21 := (blk_cell B2.out 1).trans rfl; have z21 := blk_frozen B2.out 1; have q22 := (blk_cell B2.out 2).trans rfl; have z22 := blk_frozen B2.out 2; have q23 := (blk_cell B2.out 3).trans rfl; have z23 := blk_frozen B2.out 3; have q24 := (blk_cell B2.out 4).trans rfl; have z24 := blk_frozen B2.out 4)
      | (go_at_call 67; (with_reducible refine ((term_calls13 w0 _ rb rest hby H1.out.st).mono (fun e w' hr => (HN1.out e w' _ hr))).mono ?_); rintro e w2 ⟨rfl, hk, hb⟩; have HK := Aside0.mk (H1.out.ups hk); have HB := Aside0.mk hb; clear hk hb))
    exact ⟨rfl, Reads.upped HK.out HB.out⟩
  | ok p =>
    obtain ⟨t, r1⟩ := p
    have hby1 := termR_bytes hby hHN1
    have HN1 := Aside0.mk (show ∀ e w' W, Reads w0 W rb (termR 13 1 rest) (ValT) e w' → ∃ v, e = .returned v ∧ (ValT) t w' v ∧ Rst w0 w' rb r1 ∧ KeepBut W w' rb none from fun e w' W hr => by rw [hHN1] at hr; exact hr.okv)
    cases hHN2 : smallR 1 32 r1 with
    | error c =>
      have er : atomR rest = .error c := by unfold atomR; rw [Rd.then_ok hHN1, Rd.then_err hHN2]
      rw [er]
      have HN2 := Aside0.mk (show ∀ e w' W, Reads w0 W rb (smallR 1 32 r1) (ValI .i64) e w' → e = gaveUp c ∧ KeepBut W w' rb none ∧ Below w0.heap.size w0 w' from fun e w' W hr => by rw [hHN2] at hr; exact hr.nov)
      clear hHN1 hHN2 er
      go_enter Tryd.func32, Tryd.ntmps32
      go_wp2_with (first
        | ((with_reducible refine gate_dst (N := 2) rfl ?_); refine box_event ?hg (N := 2) ?hd (cs := #[.int .i64 0, .int .i64 0, .string (⟨#[]⟩ : ByteArray), .string (⟨#[]⟩ : ByteArray), .slice none 0 0]) (t := 26) ?hr ?_; (case hd => rfl); (case hg => rfl); (case hr => first | (go_simp; done) | (go_simp; rfl)); intro b2 hb2 wb2 hbox hb; have H1 := Aside0.mk (HS.out.up hb); have B2 := Aside0.mk hbox; have G2 := Aside0.mk (show w.heap.size ≤ b2 by have := (HS.out.keep).1; omega); clear hb2 hbox hb; have q20 := (blk_cell B2.out 0).trans rfl; have z20 := blk_frozen B2.out 0; have q21 := (blk_cell B2.out 1).trans rfl; have z21 := blk_frozen B2.out 1; have q22 := (blk_cell B2.out 2).trans rfl; have z22 := blk_frozen B2.out 2; have q23 := (blk_cell B2.out 3).trans rfl; have z23 := blk_frozen B2.out 3; have q24 := (blk_cell B2.out 4).trans rfl; have z24 := blk_frozen B2.out 4)
        | (go_at_call 69; (with_reducible refine ((small_calls w0 _ rb r1 1 32 hby1 (H3.out.set5 G3.out).st).mono (fun e w' hr => (HN2.out e w' _ hr))).mono ?_); rintro e w4 ⟨rfl, hk, hb⟩; have HK := Aside0.mk ((H3.out.set5 G3.out).ups hk); have HB := Aside0.mk hb; clear hk hb)
        | (go_at_call 67; (with_reducible refine ((term_calls13 w0 _ rb rest hby H1.out.st).mono (fun e w' hr => (HN1.out e w' _ hr))).mono ?_); rintro e w2 ⟨v, rfl, rfl, hs, hk⟩; replace B2 := Aside0.mk (H1.out.blk B2.out G2.out hk); have H2 := Aside0.mk (H1.out.call hs hk); clear hs hk q20 z20 q21 z21 q22 z22 q23 z23 q24 z24; have q20 := (blk_cell B2.out 0).trans rfl; have z20 := blk_frozen B2.out 0; have q21 := (blk_cell B2.out 1).trans rfl; have z21 := blk_frozen B2.out 1; have q22 := (blk_cell B2.out 2).trans rfl; have z22 := blk_frozen B2.out 2; have q23 := (blk_cell B2.out 3).trans rfl; have z23 := blk_frozen B2.out 3; have q24 := (blk_cell B2.out 4).trans rfl; have z24 := blk_frozen B2.out 4)
        | ((with_reducible refine gate_dst (N := 3) rfl ?_); refine box_event ?hg (N := 3) ?hd (cs := #[.int .i64 0, .int .i64 0, .string (⟨#[]⟩ : ByteArray), .string (⟨#[]⟩ : ByteArray), .slice none 0 0]) (t := 26) ?hr ?_; (case hd => rfl); (case hg => rfl); (case hr => first | (go_simp; done) | (go_simp; rfl)); intro b3 hb3 wb3 hbox hb; have H3 := Aside0.mk (H2.out.up hb); have B3 := Aside0.mk hbox; have G3 := Aside0.mk (show w.heap.size ≤ b3 by have := (H2.out.keep).1; omega); have N3 := Aside0.mk (show b2 ≠ b3 by have := blk_lt B2.out; omega); replace B2 := Aside0.mk (blk_below B2.out hb); have hne1 := N3.out; have hne2 := Ne.symm N3.out; clear hb3 hbox hb; have q30 := (blk_cell B3.out 0).trans rfl; have z30 := blk_frozen B3.out 0; have q31 := (blk_cell B3.out 1).trans rfl; have z31 := blk_frozen B3.out 1; have q32 := (blk_cell B3.out 2).trans rfl; have z32 := blk_frozen B3.out 2; have q33 := (blk_cell B3.out 3).trans rfl; have z33 := blk_frozen B3.out 3; have q34 := (blk_cell B3.out 4).trans rfl; have z34 := blk_frozen B3.out 4))
      exact ⟨rfl, Reads.upped HK.out HB.out⟩
    | ok p =>
      obtain ⟨m, r2⟩ := p
      obtain ⟨m0, m1, m2, hby2⟩ := smallR_ok hby1 hHN2
      obtain ⟨m, rfl⟩ := Int.eq_ofNat_of_zero_le m2
      have HM := Aside0.mk (show m ≤ 4611686018427387904 by omega)
      have HN2 := Aside0.mk (show ∀ e w' W, Reads w0 W rb (smallR 1 32 r1) (ValI .i64) e w' → ∃ v, e = .returned v ∧ (ValI .i64) (m : Int) w' v ∧ Rst w0 w' rb r2 ∧ KeepBut W w' rb none from fun e w' W hr => by rw [hHN2] at hr; exact hr.okv)
      clear m0 m1 m2
      cases hHN3 : takeR m r2 with
      | error c =>
        have er : atomR rest = .error c := by unfold atomR; rw [Rd.then_ok hHN1, Rd.then_ok hHN2, Int.toNat_natCast, Rd.then_err hHN3]
        rw [er]
        have HN3 := Aside0.mk (show ∀ e w' W, Reads w0 W rb (takeR m r2) (ValB w0) e w' → e = gaveUp c ∧ KeepBut W w' rb none ∧ Below w0.heap.size w0 w' from fun e w' W hr => by rw [hHN3] at hr; exact hr.nov)
        clear hHN1 hHN2 hHN3 er
        go_enter Tryd.func32, Tryd.ntmps32
        go_wp2_with (first
          | ((with_reducible refine gate_dst (N := 2) rfl ?_); refine box_event ?hg (N := 2) ?hd (cs := #[.int .i64 0, .int .i64 0, .string (⟨#[]⟩ : ByteArray), .string (⟨#[]⟩ : ByteArray), .slice none 0 0]) (t := 26) ?hr ?_; (case hd => rfl); (case hg => rfl); (case hr => first | (go_simp; done) | (go_simp; rfl)); intro b2 hb2 wb2 hbox hb; have H1 := Aside0.mk (HS.out.up hb); have B2 := Aside0.mk hbox; have G2 := Aside0.mk (show w.heap.size ≤ b2 by have := (HS.out.keep).1; omega); clear hb2 hbox hb; have q20 := (blk_cell B2.out 0).trans rfl; have z20 := blk_frozen B2.out 0; have q21 := (blk_cell B2.out 1).trans rfl; have z21 := blk_frozen B2.out 1; have q22 := (blk_cell B2.out 2).trans rfl; have z22 := blk_frozen B2.out 2; have q23 := (blk_cell B2.out 3).trans rfl; have z23 := blk_frozen B2.out 3; have q24 := (blk_cell B2.out 4).trans rfl; have z24 := blk_frozen B2.out 4)
          | (go_at_call 68; (with_reducible refine ((take_calls w0 _ rb r2 m HM.out H4.out.st).mono (fun e w' hr => (HN3.out e w' _ hr))).mono ?_); rintro e w5 ⟨rfl, hk, hb⟩; have HK := Aside0.mk (H4.out.ups hk); have HB := Aside0.mk hb; clear hk hb)
          | (go_at_call 69; (with_reducible refine ((small_calls w0 _ rb r1 1 32 hby1 (H3.out.set5 G3.out).st).mono (fun e w' hr => (HN2.out e w' _ hr))).mono ?_); rintro e w4 ⟨v, rfl, rfl, hs, hk⟩; replace B2 := Aside0.mk ((H3.out.set5 G3.out).blk (far5 B2.out N3.out) G2.out hk); replace B3 := Aside0.mk ((H3.out.set5 G3.out).blk (blk5 B3.out) G3.out hk); have H4 := Aside0.mk ((H3.out.set5 G3.out).call hs hk); clear hs hk q20 z20 q21 z21 q22 z22 q23 z23 q24 z24 q30 z30 q31 z31 q32 z32 q33 z33 q34 z34; have q20 := (blk_cell B2.out 0).trans rfl; have z20 := blk_frozen B2.out 0; have q21 := (blk_cell B2.out 1).trans rfl; have z21 := blk_frozen B2.out 1; have q22 := (blk_cell B2.out 2).trans rfl; have z22 := blk_frozen B2.out 2; have q23 := (blk_cell B2.out 3).trans rfl; have z23 := blk_frozen B2.out 3; have q24 := (blk_cell B2.out 4).trans rfl; have z24 := blk_frozen B2.out 4; have q30 := (blk_cell B3.out 0).trans rfl; have z30 := blk_frozen B3.out 0; have q31 := (blk_cell B3.out 1).trans rfl; have z31 := blk_frozen B3.out 1; have q32 := (blk_cell B3.out 2).trans rfl; have z32 := blk_frozen B3.out 2; have q33 := (blk_cell B3.out 3).trans rfl; have z33 := blk_frozen B3.out 3; have q34 := (blk_cell B3.out 4).trans rfl; have z34 := blk_frozen B3.out 4)
          | (go_at_call 67; (with_reducible refine ((term_calls13 w0 _ rb rest hby H1.out.st).mono (fun e w' hr => (HN1.out e w' _ hr))).mono ?_); rintro e w2 ⟨v, rfl, rfl, hs, hk⟩; replace B2 := Aside0.mk (H1.out.blk B2.out G2.out hk); have H2 := Aside0.mk (H1.out.call hs hk); clear hs hk q20 z20 q21 z21 q22 z22 q23 z23 q24 z24; have q20 := (blk_cell B2.out 0).trans rfl; have z20 := blk_frozen B2.out 0; have q21 := (blk_cell B2.out 1).trans rfl; have z21 := blk_frozen B2.out 1; have q22 := (blk_cell B2.out 2).trans rfl; have z22 := blk_frozen B2.out 2; have q23 := (blk_cell B2.out 3).trans rfl; have z23 := blk_frozen B2.out 3; have q24 := (blk_cell B2.out 4).trans rfl; have z24 := blk_frozen B2.out 4)
          | ((with_reducible refine gate_dst (N := 3) rfl ?_); refine box_event ?hg (N := 3) ?hd (cs := #[.int .i64 0, .int .i64 0, .string (⟨#[]⟩ : ByteArray), .string (⟨#[]⟩ : ByteArray), .slice none 0 0]) (t := 26) ?hr ?_; (case hd => rfl); (case hg => rfl); (case hr => first | (go_simp; done) | (go_simp; rfl)); intro b3 hb3 wb3 hbox hb; have H3 := Aside0.mk (H2.out.up hb); have B3 := Aside0.mk hbox; have G3 := Aside0.mk (show w.heap.size ≤ b3 by have := (H2.out.keep).1; omega); have N3 := Aside0.mk (show b2 ≠ b3 by have := blk_lt B2.out; omega); replace B2 := Aside0.mk (blk_below B2.out hb); have hne1 := N3.out; have hne2 := Ne.symm N3.out; clear hb3 hbox hb; have q30 := (blk_cell B3.out 0).trans rfl; have z30 := blk_frozen B3.out 0; have q31 := (blk_cell B3.out 1).trans rfl; have z31 := blk_frozen B3.out 1; have q32 := (blk_cell B3.out 2).trans rfl; have z32 := blk_frozen B3.out 2; have q33 := (blk_cell B3.out 3).trans rfl; have z33 := blk_frozen B3.out 3; have q34 := (blk_cell B3.out 4).trans rfl; have z34 := blk_frozen B3.out 4))
        exact ⟨rfl, Reads.upped HK.out HB.out⟩
      | ok p =>
        obtain ⟨b, r3⟩ := p
        have hby3 := (takeR_ok hby2 hHN3).2.2
        have HN3 := Aside0.mk (show ∀ e w' W, Reads w0 W rb (takeR m r2) (ValB w0) e w' → ∃ v, e = .returned v ∧ (ValB w0) b w' v ∧ Rst w0 w' rb r3 ∧ KeepBut W w' rb none from fun e w' W hr => by rw [hHN3] at hr; exact hr.okv)
        obtain ⟨CK, hCK⟩ : ∃ x, checkA ⟨0, 0, ⟨#[]⟩⟩ (strOf b) [] = x := ⟨_, rfl⟩
        have HCK := Aside0.mk (show term_CheckAtom.f 40 0 0 (⟨#[]⟩ : ByteArray) (strOf b) [] = some CK by rw [← hCK]; exact check_f ⟨0, 0, ⟨#[]⟩⟩ (strOf b) [] rfl (by decide) 40 (by omega))
        have HCKC := Aside0.mk (show ∀ W, Below w0.heap.size w0 W → Calls Tryd.prog 26 #[.agg #[.int .i64 0, .int .i64 0, .string (⟨#[]⟩ : ByteArray), .string (strOf b), .slice none 0 0]] W (fun e w' => e = .returned (.int .i64 CK) ∧ Below W.heap.size W w') from fun W hb => term_CheckAtom.calls 40 0 0 (⟨#[]⟩ : ByteArray) (strOf b) none 0 [] CK W (Kd.C_nil _ _) (Nat.le_refl _) (Laid2.up HLD.out hb) HCK.out)
        by_cases hck : CK = 0
        rotate_left
        · have hno : nameOk (strOf b) = false := by unfold nameOk; rw [hCK]; simpa using hck
          have c1 : (CK == 0) = false := by simpa using hck
          have er : atomR rest = .error 63 := by unfold atomR; rw [Rd.then_ok hHN1, Rd.then_ok hHN2, Int.toNat_natCast, Rd.then_ok hHN3, hno, needR_false, Rd.then_fail]
          rw [er]
          clear hHN1 hHN2 hHN3 er hno hCK hck
          go_enter Tryd.func32, Tryd.ntmps32
          go_wp2_with (first
            | ((with_reducible refine gate_dst (N := 2) rfl ?_); refine box_event ?hg (N := 2) ?hd (cs := #[.int .i64 0, .int .i64 0, .string (⟨#[]⟩ : ByteArray), .string (⟨#[]⟩ : ByteArray), .slice none 0 0]) (t := 26) ?hr ?_; (case hd => rfl); (case hg => rfl); (case hr => first | (go_simp; done) | (go_simp; rfl)); intro b2 hb2 wb2 hbox hb; have H1 := Aside0.mk (HS.out.up hb); have B2 := Aside0.mk hbox; have G2 := Aside0.mk (show w.heap.size ≤ b2 by have := (HS.out.keep).1; omega); clear hb2 hbox hb; have q20 := (blk_cell B2.out 0).trans rfl; have z20 := blk_frozen B2.out 0; have q21 := (blk_cell B2.out 1).trans rfl; have z21 := blk_frozen B2.out 1; have q22 := (blk_cell B2.out 2).trans rfl; have z22 := blk_frozen B2.out 2; have q23 := (blk_cell B2.out 3).trans rfl; have z23 := blk_frozen B2.out 3; have q24 := (blk_cell B2.out 4).trans rfl; have z24 := blk_frozen B2.out 4)
            | (go_at_call 66; (with_reducible refine (need_false 63 _).mono ?_); rintro e w7 ⟨rfl, rfl⟩)
            | (go_at_call 26; (with_reducible refine (HCKC.out _ (below_of (H5.out.set G3.out 3 (.string (strOf b))))).mono ?_); rintro e w6 ⟨rfl, hb⟩; replace B2 := Aside0.mk (blk_below (far1 (j := 3) (x := .string (strOf b)) B2.out N3.out) hb); replace B3 := Aside0.mk (blk_below (blk_set B3.out 3 (.string (strOf b))) hb); have H6 := Aside0.mk ((H5.out.set G3.out 3 (.string (strOf b))).up hb); clear hb q20 z20 q21 z21 q22 z22 q23 z23 q24 z24 q30 z30 q31 z31 q32 z32 q33 z33 q34 z34; have q20 := (blk_cell B2.out 0).trans rfl; have z20 := blk_frozen B2.out 0; have q21 := (blk_cell B2.out 1).trans rfl; have z21 := blk_frozen B2.out 1; have q22 := (blk_cell B2.out 2).trans rfl; have z22 := blk_frozen B2.out 2; have q23 := (blk_cell B2.out 3).trans rfl; have z23 := blk_frozen B2.out 3; have q24 := (blk_cell B2.out 4).trans rfl; have z24 := blk_frozen B2.out 4; have q30 := (blk_cell B3.out 0).trans rfl; have z30 := blk_frozen B3.out 0; have q31 := (blk_cell B3.out 1).trans rfl; have z31 := blk_frozen B3.out 1; have q32 := (blk_cell B3.out 2).trans rfl; have z32 := blk_frozen B3.out 2; have q33 := (blk_cell B3.out 3).trans rfl; have z33 := blk_frozen B3.out 3; have q34 := (blk_cell B3.out 4).trans rfl; have z34 := blk_frozen B3.out 4)
            | (go_at_call 68; (with_reducible refine ((take_calls w0 _ rb r2 m HM.out H4.out.st).mono (fun e w' hr => (HN3.out e w' _ hr))).mono ?_); rintro e w5 ⟨v, rfl, ⟨A, c, rfl, hA⟩, hs, hk⟩; replace B2 := Aside0.mk (H4.out.blk B2.out G2.out hk); replace B3 := Aside0.mk (H4.out.blk B3.out G3.out hk); have H5 := Aside0.mk (H4.out.call hs hk); have hstr := string_of_reads (P := Tryd.prog) (src := 27) (dst := 9) (c := c) Tryd.underlying27 Tryd.underlying5 Tryd.underlying9 (hA.below hs.below); clear hA; clear hs hk q20 z20 q21 z21 q22 z22 q23 z23 q24 z24 q30 z30 q31 z31 q32 z32 q33 z33 q34 z34; have q20 := (blk_cell B2.out 0).trans rfl; have z20 := blk_frozen B2.out 0; have q21 := (blk_cell B2.out 1).trans rfl; have z21 := blk_frozen B2.out 1; have q22 := (blk_cell B2.out 2).trans rfl; have z22 := blk_frozen B2.out 2; have q23 := (blk_cell B2.out 3).trans rfl; have z23 := blk_frozen B2.out 3; have q24 := (blk_cell B2.out 4).trans rfl; have z24 := blk_frozen B2.out 4; have q30 := (blk_cell B3.out 0).trans rfl; have z30 := blk_frozen B3.out 0; have q31 := (blk_cell B3.out 1).trans rfl; have z31 := blk_frozen B3.out 1; have q32 := (blk_cell B3.out 2).trans rfl; have z32 := blk_frozen B3.out 2; have q33 := (blk_cell B3.out 3).trans rfl; have z33 := blk_frozen B3.out 3; have q34 := (blk_cell B3.out 4).trans rfl; have z34 := blk_frozen B3.out 4)
            | (go_at_call 69; (with_reducible refine ((small_calls w0 _ rb r1 1 32 hby1 (H3.out.set5 G3.out).st).mono (fun e w' hr => (HN2.out e w' _ hr))).mono ?_); rintro e w4 ⟨v, rfl, rfl, hs, hk⟩; replace B2 := Aside0.mk ((H3.out.set5 G3.out).blk (far5 B2.out N3.out) G2.out hk); replace B3 := Aside0.mk ((H3.out.set5 G3.out).blk (blk5 B3.out) G3.out hk); have H4 := Aside0.mk ((H3.out.set5 G3.out).call hs hk); clear hs hk q20 z20 q21 z21 q22 z22 q23 z23 q24 z24 q30 z30 q31 z31 q32 z32 q33 z33 q34 z34; have q20 := (blk_cell B2.out 0).trans rfl; have z20 := blk_frozen B2.out 0; have q21 := (blk_cell B2.out 1).trans rfl; have z21 := blk_frozen B2.out 1; have q22 := (blk_cell B2.out 2).trans rfl; have z22 := blk_frozen B2.out 2; have q23 := (blk_cell B2.out 3).trans rfl; have z23 := blk_frozen B2.out 3; have q24 := (blk_cell B2.out 4).trans rfl; have z24 := blk_frozen B2.out 4; have q30 := (blk_cell B3.out 0).trans rfl; have z30 := blk_frozen B3.out 0; have q31 := (blk_cell B3.out 1).trans rfl; have z31 := blk_frozen B3.out 1; have q32 := (blk_cell B3.out 2).trans rfl; have z32 := blk_frozen B3.out 2; have q33 := (blk_cell B3.out 3).trans rfl; have z33 := blk_frozen B3.out 3; have q34 := (blk_cell B3.out 4).trans rfl; have z34 := blk_frozen B3.out 4)
            | (go_at_call 67; (with_reducible refine ((term_calls13 w0 _ rb rest hby H1.out.st).mono (fun e w' hr => (HN1.out e w' _ hr))).mono ?_); rintro e w2 ⟨v, rfl, rfl, hs, hk⟩; replace B2 := Aside0.mk (H1.out.blk B2.out G2.out hk); have H2 := Aside0.mk (H1.out.call hs hk); clear hs hk q20 z20 q21 z21 q22 z22 q23 z23 q24 z24; have q20 := (blk_cell B2.out 0).trans rfl; have z20 := blk_frozen B2.out 0; have q21 := (blk_cell B2.out 1).trans rfl; have z21 := blk_frozen B2.out 1; have q22 := (blk_cell B2.out 2).trans rfl; have z22 := blk_frozen B2.out 2; have q23 := (blk_cell B2.out 3).trans rfl; have z23 := blk_frozen B2.out 3; have q24 := (blk_cell B2.out 4).trans rfl; have z24 := blk_frozen B2.out 4)
            | ((with_reducible refine gate_dst (N := 3) rfl ?_); refine box_event ?hg (N := 3) ?hd (cs := #[.int .i64 0, .int .i64 0, .string (⟨#[]⟩ : ByteArray), .string (⟨#[]⟩ : ByteArray), .slice none 0 0]) (t := 26) ?hr ?_; (case hd => rfl); (case hg => rfl); (case hr => first | (go_simp; done) | (go_simp; rfl)); intro b3 hb3 wb3 hbox hb; have H3 := Aside0.mk (H2.out.up hb); have B3 := Aside0.mk hbox; have G3 := Aside0.mk (show w.heap.size ≤ b3 by have := (H2.out.keep).1; omega); have N3 := Aside0.mk (show b2 ≠ b3 by have := blk_lt B2.out; omega); replace B2 := Aside0.mk (blk_below B2.out hb); have hne1 := N3.out; have hne2 := Ne.symm N3.out; clear hb3 hbox hb; have q30 := (blk_cell B3.out 0).trans rfl; have z30 := blk_frozen B3.out 0; have q31 := (blk_cell B3.out 1).trans rfl; have z31 := blk_frozen B3.out 1; have q32 := (blk_cell B3.out 2).trans rfl; have z32 := blk_frozen B3.out 2; have q33 := (blk_cell B3.out 3).trans rfl; have z33 := blk_frozen B3.out 3; have q34 := (blk_cell B3.out 4).trans rfl; have z34 := blk_frozen B3.out 4))
          exact ⟨rfl, Reads.upped H6.out.keep H6.out.st.below⟩
        subst hck
        have hyes : nameOk (strOf b) = true := by unfold nameOk; rw [hCK]; rfl
        cases hHN4 : smallR 0 8 r3 with
        | error c =>
          have er : atomR rest = .error c := by unfold atomR; rw [Rd.then_ok hHN1, Rd.then_ok hHN2, Int.toNat_natCast, Rd.then_ok hHN3, hyes, needR_true, Rd.then_give, Rd.then_err hHN4]
          rw [er]
          have HN4 := Aside0.mk (show ∀ e w' W, Reads w0 W rb (smallR 0 8 r3) (ValI .i64) e w' → e = gaveUp c ∧ KeepBut W w' rb none ∧ Below w0.heap.size w0 w' from fun e w' W hr => by rw [hHN4] at hr; exact hr.nov)
          clear hHN1 hHN2 hHN3 hHN4 er hyes hCK
          go_enter Tryd.func32, Tryd.ntmps32
          go_wp2_with (first
            | ((with_reducible refine gate_dst (N := 2) rfl ?_); refine box_event ?hg (N := 2) ?hd (cs := #[.int .i64 0, .int .i64 0, .string (⟨#[]⟩ : ByteArray), .string (⟨#[]⟩ : ByteArray), .slice none 0 0]) (t := 26) ?hr ?_; (case hd => rfl); (case hg => rfl); (case hr => first | (go_simp; done) | (go_simp; rfl)); intro b2 hb2 wb2 hbox hb; have H1 := Aside0.mk (HS.out.up hb); have B2 := Aside0.mk hbox; have G2 := Aside0.mk (show w.heap.size ≤ b2 by have := (HS.out.keep).1; omega); clear hb2 hbox hb; have q20 := (blk_cell B2.out 0).trans rfl; have z20 := blk_frozen B2.out 0; have q21 := (blk_cell B2.out 1).trans rfl; have z21 := blk_frozen B2.out 1; have q22 := (blk_cell B2.out 2).trans rfl; have z22 := blk_frozen B2.out 2; have q23 := (blk_cell B2.out 3).trans rfl; have z23 := blk_frozen B2.out 3; have q24 := (blk_cell B2.out 4).trans rfl; have z24 := blk_frozen B2.out 4)
            | (go_at_call 69; (with_reducible refine ((small_calls w0 _ rb r3 0 8 hby3 H6.out.st).mono (fun e w' hr => (HN4.out e w' _ hr))).mono ?_); rintro e w8 ⟨rfl, hk, hb⟩; have HK := Aside0.mk (H6.out.ups hk); have HB := Aside0.mk hb; clear hk hb)
            | (go_at_call 66; (with_reducible refine (need_true 63 _).mono ?_); rintro e w7 ⟨rfl, rfl⟩)
            | (go_at_call 26; (with_reducible refine (HCKC.out _ (below_of (H5.out.set G3.out 3 (.string (strOf b))))).mono ?_); rintro e w6 ⟨rfl, hb⟩; replace B2 := Aside0.mk (blk_below (far1 (j := 3) (x := .string (strOf b)) B2.out N3.out) hb); replace B3 := Aside0.mk (blk_below (blk_set B3.out 3 (.string (strOf b))) hb); have H6 := Aside0.mk ((H5.out.set G3.out 3 (.string (strOf b))).up hb); clear hb q20 z20 q21 z21 q22 z22 q23 z23 q24 z24 q30 z30 q31 z31 q32 z32 q33 z33 q34 z34; have q20 := (blk_cell B2.out 0).trans rfl; have z20 := blk_frozen B2.out 0; have q21 := (blk_cell B2.out 1).trans rfl; have z21 := blk_frozen B2.out 1; have q22 := (blk_cell B2.out 2).trans rfl; have z22 := blk_frozen B2.out 2; have q23 := (blk_cell B2.out 3).trans rfl; have z23 := blk_frozen B2.out 3; have q24 := (blk_cell B2.out 4).trans rfl; have z24 := blk_frozen B2.out 4; have q30 := (blk_cell B3.out 0).trans rfl; have z30 := blk_frozen B3.out 0; have q31 := (blk_cell B3.out 1).trans rfl; have z31 := blk_frozen B3.out 1; have q32 := (blk_cell B3.out 2).trans rfl; have z32 := blk_frozen B3.out 2; have q33 := (blk_cell B3.out 3).trans rfl; have z33 := blk_frozen B3.out 3; have q34 := (blk_cell B3.out 4).trans rfl; have z34 := blk_frozen B3.out 4)
            | (go_at_call 68; (with_reducible refine ((take_calls w0 _ rb r2 m HM.out H4.out.st).mono (fun e w' hr => (HN3.out e w' _ hr))).mono ?_); rintro e w5 ⟨v, rfl, ⟨A, c, rfl, hA⟩, hs, hk⟩; replace B2 := Aside0.mk (H4.out.blk B2.out G2.out hk); replace B3 := Aside0.mk (H4.out.blk B3.out G3.out hk); have H5 := Aside0.mk (H4.out.call hs hk); have hstr := string_of_reads (P := Tryd.prog) (src := 27) (dst := 9) (c := c) Tryd.underlying27 Tryd.underlying5 Tryd.underlying9 (hA.below hs.below); clear hA; clear hs hk q20 z20 q21 z21 q22 z22 q23 z23 q24 z24 q30 z30 q31 z31 q32 z32 q33 z33 q34 z34; have q20 := (blk_cell B2.out 0).trans rfl; have z20 := blk_frozen B2.out 0; have q21 := (blk_cell B2.out 1).trans rfl; have z21 := blk_frozen B2.out 1; have q22 := (blk_cell B2.out 2).trans rfl; have z22 := blk_frozen B2.out 2; have q23 := (blk_cell B2.out 3).trans rfl; have z23 := blk_frozen B2.out 3; have q24 := (blk_cell B2.out 4).trans rfl; have z24 := blk_frozen B2.out 4; have q30 := (blk_cell B3.out 0).trans rfl; have z30 := blk_frozen B3.out 0; have q31 := (blk_cell B3.out 1).trans rfl; have z31 := blk_frozen B3.out 1; have q32 := (blk_cell B3.out 2).trans rfl; have z32 := blk_frozen B3.out 2; have q33 := (blk_cell B3.out 3).trans rfl; have z33 := blk_frozen B3.out 3; have q34 := (blk_cell B3.out 4).trans rfl; have z34 := blk_frozen B3.out 4)
            | (go_at_call 69; (with_reducible refine ((small_calls w0 _ rb r1 1 32 hby1 (H3.out.set5 G3.out).st).mono (fun e w' hr => (HN2.out e w' _ hr))).mono ?_); rintro e w4 ⟨v, rfl, rfl, hs, hk⟩; replace B2 := Aside0.mk ((H3.out.set5 G3.out).blk (far5 B2.out N3.out) G2.out hk); replace B3 := Aside0.mk ((H3.out.set5 G3.out).blk (blk5 B3.out) G3.out hk); have H4 := Aside0.mk ((H3.out.set5 G3.out).call hs hk); clear hs hk q20 z20 q21 z21 q22 z22 q23 z23 q24 z24 q30 z30 q31 z31 q32 z32 q33 z33 q34 z34; have q20 := (blk_cell B2.out 0).trans rfl; have z20 := blk_frozen B2.out 0; have q21 := (blk_cell B2.out 1).trans rfl; have z21 := blk_frozen B2.out 1; have q22 := (blk_cell B2.out 2).trans rfl; have z22 := blk_frozen B2.out 2; have q23 := (blk_cell B2.out 3).trans rfl; have z23 := blk_frozen B2.out 3; have q24 := (blk_cell B2.out 4).trans rfl; have z24 := blk_frozen B2.out 4; have q30 := (blk_cell B3.out 0).trans rfl; have z30 := blk_frozen B3.out 0; have q31 := (blk_cell B3.out 1).trans rfl; have z31 := blk_frozen B3.out 1; have q32 := (blk_cell B3.out 2).trans rfl; have z32 := blk_frozen B3.out 2; have q33 := (blk_cell B3.out 3).trans rfl; have z33 := blk_frozen B3.out 3; have q34 := (blk_cell B3.out 4).trans rfl; have z34 := blk_frozen B3.out 4)
            | (go_at_call 67; (with_reducible refine ((term_calls13 w0 _ rb rest hby H1.out.st).mono (fun e w' hr => (HN1.out e w' _ hr))).mono ?_); rintro e w2 ⟨v, rfl, rfl, hs, hk⟩; replace B2 := Aside0.mk (H1.out.blk B2.out G2.out hk); have H2 := Aside0.mk (H1.out.call hs hk); clear hs hk q20 z20 q21 z21 q22 z22 q23 z23 q24 z24; have q20 := (blk_cell B2.out 0).trans rfl; have z20 := blk_frozen B2.out 0; have q21 := (blk_cell B2.out 1).trans rfl; have z21 := blk_frozen B2.out 1; have q22 := (blk_cell B2.out 2).trans rfl; have z22 := blk_frozen B2.out 2; have q23 := (blk_cell B2.out 3).trans rfl; have z23 := blk_frozen B2.out 3; have q24 := (blk_cell B2.out 4).trans rfl; have z24 := blk_frozen B2.out 4)
            | ((with_reducible refine gate_dst (N := 3) rfl ?_); refine box_event ?hg (N := 3) ?hd (cs := #[.int .i64 0, .int .i64 0, .string (⟨#[]⟩ : ByteArray), .string (⟨#[]⟩ : ByteArray), .slice none 0 0]) (t := 26) ?hr ?_; (case hd => rfl); (case hg => rfl); (case hr => first | (go_simp; done) | (go_simp; rfl)); intro b3 hb3 wb3 hbox hb; have H3 := Aside0.mk (H2.out.up hb); have B3 := Aside0.mk hbox; have G3 := Aside0.mk (show w.heap.size ≤ b3 by have := (H2.out.keep).1; omega); have N3 := Aside0.mk (show b2 ≠ b3 by have := blk_lt B2.out; omega); replace B2 := Aside0.mk (blk_below B2.out hb); have hne1 := N3.out; have hne2 := Ne.symm N3.out; clear hb3 hbox hb; have q30 := (blk_cell B3.out 0).trans rfl; have z30 := blk_frozen B3.out 0; have q31 := (blk_cell B3.out 1).trans rfl; have z31 := blk_frozen B3.out 1; have q32 := (blk_cell B3.out 2).trans rfl; have z32 := blk_frozen B3.out 2; have q33 := (blk_cell B3.out 3).trans rfl; have z33 := blk_frozen B3.out 3; have q34 := (blk_cell B3.out 4).trans rfl; have z34 := blk_frozen B3.out 4))
          exact ⟨rfl, Reads.upped HK.out HB.out⟩
        | ok p =>
          obtain ⟨k, r4⟩ := p
          obtain ⟨k0, k1, k2, hby4⟩ := smallR_ok hby3 hHN4
          obtain ⟨k, rfl⟩ := Int.eq_ofNat_of_zero_le k2
          have HKK := Aside0.mk (show k < 4294967296 by omega)
          have HN4 := Aside0.mk (show ∀ e w' W, Reads w0 W rb (smallR 0 8 r3) (ValI .i64) e w' → ∃ v, e = .returned v ∧ (ValI .i64) (k : Int) w' v ∧ Rst w0 w' rb r4 ∧ KeepBut W w' rb none from fun e w' W hr => by rw [hHN4] at hr; exact hr.okv)
          have HMANY := Aside0.mk (show ∀ W, Rst w0 W rb r4 → Calls Tryd.prog 70 #[.int .i64 k, .func (.func 71) #[.pointer (some ⟨rb, 0, none⟩)] #[]] W (Reads w0 W rb (manyR (termR 14 0) k r4) (ValL W)) from fun W hs => many_calls (termR 14 0) (fun r r' x hb hx => termR_bytes hb hx) w0 W rb 71 (enters_of Tryd.func71 (by kernel_rfl) rfl) (fun W r hb hr => value_calls w0 W rb r hb hr) r4 k HKK.out hby4 hs)
          clear k0 k1 k2
          cases hHN5 : manyR (termR 14 0) k r4 with
          | error c =>
            have er : atomR rest = .error c := by unfold atomR; rw [Rd.then_ok hHN1, Rd.then_ok hHN2, Int.toNat_natCast, Rd.then_ok hHN3, hyes, needR_true, Rd.then_give, Rd.then_ok hHN4, Int.toNat_natCast, Rd.then_err hHN5]
            rw [er]
            have HN5 := Aside0.mk (show ∀ e w' W, Reads w0 W rb (manyR (termR 14 0) k r4) (ValL W) e w' → e = gaveUp c ∧ KeepBut W w' rb none ∧ Below w0.heap.size w0 w' from fun e w' W hr => by rw [hHN5] at hr; exact hr.nov)
            clear hHN1 hHN2 hHN3 hHN4 hHN5 er hyes hCK
            go_enter Tryd.func32, Tryd.ntmps32
            go_wp2_with (first
              | ((with_reducible refine gate_dst (N := 2) rfl ?_); refine box_event ?hg (N := 2) ?hd (cs := #[.int .i64 0, .int .i64 0, .string (⟨#[]⟩ : ByteArray), .string (⟨#[]⟩ : ByteArray), .slice none 0 0]) (t := 26) ?hr ?_; (case hd => rfl); (case hg => rfl); (case hr => first | (go_simp; done) | (go_simp; rfl)); intro b2 hb2 wb2 hbox hb; have H1 := Aside0.mk (HS.out.up hb); have B2 := Aside0.mk hbox; have G2 := Aside0.mk (show w.heap.size ≤ b2 by have := (HS.out.keep).1; omega); clear hb2 hbox hb; have q20 := (blk_cell B2.out 0).trans rfl; have z20 := blk_frozen B2.out 0; have q21 := (blk_cell B2.out 1).trans rfl; have z21 := blk_frozen B2.out 1; have q22 := (blk_cell B2.out 2).trans rfl; have z22 := blk_frozen B2.out 2; have q23 := (blk_cell B2.out 3).trans rfl; have z23 := blk_frozen B2.out 3; have q24 := (blk_cell B2.out 4).trans rfl; have z24 := blk_frozen B2.out 4)
              | (go_at_call 70; (with_reducible refine ((HMANY.out _ H8.out.st).mono (fun e w' hr => (HN5.out e w' _ hr))).mono ?_); rintro e w9 ⟨rfl, hk, hb⟩; have HK := Aside0.mk (H8.out.ups hk); have HB := Aside0.mk hb; clear hk hb)
              | (go_at_call 69; (with_reducible refine ((small_calls w0 _ rb r3 0 8 hby3 H6.out.st).mono (fun e w' hr => (HN4.out e w' _ hr))).mono ?_); rintro e w8 ⟨v, rfl, rfl, hs, hk⟩; replace B2 := Aside0.mk (H6.out.blk B2.out G2.out hk); replace B3 := Aside0.mk (H6.out.blk B3.out G3.out hk); have H8 := Aside0.mk (H6.out.call hs hk); clear hs hk q20 z20 q21 z21 q22 z22 q23 z23 q24 z24 q30 z30 q31 z31 q32 z32 q33 z33 q34 z34; have q20 := (blk_cell B2.out 0).trans rfl; have z20 := blk_frozen B2.out 0; have q21 := (blk_cell B2.out 1).trans rfl; have z21 := blk_frozen B2.out 1; have q22 := (blk_cell B2.out 2).trans rfl; have z22 := blk_frozen B2.out 2; have q23 := (blk_cell B2.out 3).trans rfl; have z23 := blk_frozen B2.out 3; have q24 := (blk_cell B2.out 4).trans rfl; have z24 := blk_frozen B2.out 4; have q30 := (blk_cell B3.out 0).trans rfl; have z30 := blk_frozen B3.out 0; have q31 := (blk_cell B3.out 1).trans rfl; have z31 := blk_frozen B3.out 1; have q32 := (blk_cell B3.out 2).trans rfl; have z32 := blk_frozen B3.out 2; have q33 := (blk_cell B3.out 3).trans rfl; have z33 := blk_frozen B3.out 3; have q34 := (blk_cell B3.out 4).trans rfl; have z34 := blk_frozen B3.out 4)
              | (go_at_call 66; (with_reducible refine (need_true 63 _).mono ?_); rintro e w7 ⟨rfl, rfl⟩)
              | (go_at_call 26; (with_reducible refine (HCKC.out _ (below_of (H5.out.set G3.out 3 (.string (strOf b))))).mono ?_); rintro e w6 ⟨rfl, hb⟩; replace B2 := Aside0.mk (blk_below (far1 (j := 3) (x := .string (strOf b)) B2.out N3.out) hb); replace B3 := Aside0.mk (blk_below (blk_set B3.out 3 (.string (strOf b))) hb); have H6 := Aside0.mk ((H5.out.set G3.out 3 (.string (strOf b))).up hb); clear hb q20 z20 q21 z21 q22 z22 q23 z23 q24 z24 q30 z30 q31 z31 q32 z32 q33 z33 q34 z34; have q20 := (blk_cell B2.out 0).trans rfl; have z20 := blk_frozen B2.out 0; have q21 := (blk_cell B2.out 1).trans rfl; have z21 := blk_frozen B2.out 1; have q22 := (blk_cell B2.out 2).trans rfl; have z22 := blk_frozen B2.out 2; have q23 := (blk_cell B2.out 3).trans rfl; have z23 := blk_frozen B2.out 3; have q24 := (blk_cell B2.out 4).trans rfl; have z24 := blk_frozen B2.out 4; have q30 := (blk_cell B3.out 0).trans rfl; have z30 := blk_frozen B3.out 0; have q31 := (blk_cell B3.out 1).trans rfl; have z31 := blk_frozen B3.out 1; have q32 := (blk_cell B3.out 2).trans rfl; have z32 := blk_frozen B3.out 2; have q33 := (blk_cell B3.out 3).trans rfl; have z33 := blk_frozen B3.out 3; have q34 := (blk_cell B3.out 4).trans rfl; have z34 := blk_frozen B3.out 4)
              | (go_at_call 68; (with_reducible refine ((take_calls w0 _ rb r2 m HM.out H4.out.st).mono (fun e w' hr => (HN3.out e w' _ hr))).mono ?_); rintro e w5 ⟨v, rfl, ⟨A, c, rfl, hA⟩, hs, hk⟩; replace B2 := Aside0.mk (H4.out.blk B2.out G2.out hk); replace B3 := Aside0.mk (H4.out.blk B3.out G3.out hk); have H5 := Aside0.mk (H4.out.call hs hk); have hstr := string_of_reads (P := Tryd.prog) (src := 27) (dst := 9) (c := c) Tryd.underlying27 Tryd.underlying5 Tryd.underlying9 (hA.below hs.below); clear hA; clear hs hk q20 z20 q21 z21 q22 z22 q23 z23 q24 z24 q30 z30 q31 z31 q32 z32 q33 z33 q34 z34; have q20 := (blk_cell B2.out 0).trans rfl; have z20 := blk_frozen B2.out 0; have q21 := (blk_cell B2.out 1).trans rfl; have z21 := blk_frozen B2.out 1; have q22 := (blk_cell B2.out 2).trans rfl; have z22 := blk_frozen B2.out 2; have q23 := (blk_cell B2.out 3).trans rfl; have z23 := blk_frozen B2.out 3; have q24 := (blk_cell B2.out 4).trans rfl; have z24 := blk_frozen B2.out 4; have q30 := (blk_cell B3.out 0).trans rfl; have z30 := blk_frozen B3.out 0; have q31 := (blk_cell B3.out 1).trans rfl; have z31 := blk_frozen B3.out 1; have q32 := (blk_cell B3.out 2).trans rfl; have z32 := blk_frozen B3.out 2; have q33 := (blk_cell B3.out 3).trans rfl; have z33 := blk_frozen B3.out 3; have q34 := (blk_cell B3.out 4).trans rfl; have z34 := blk_frozen B3.out 4)
              | (go_at_call 69; (with_reducible refine ((small_calls w0 _ rb r1 1 32 hby1 (H3.out.set5 G3.out).st).mono (fun e w' hr => (HN2.out e w' _ hr))).mono ?_); rintro e w4 ⟨v, rfl, rfl, hs, hk⟩; replace B2 := Aside0.mk ((H3.out.set5 G3.out).blk (far5 B2.out N3.out) G2.out hk); replace B3 := Aside0.mk ((H3.out.set5 G3.out).blk (blk5 B3.out) G3.out hk); have H4 := Aside0.mk ((H3.out.set5 G3.out).call hs hk); clear hs hk q20 z20 q21 z21 q22 z22 q23 z23 q24 z24 q30 z30 q31 z31 q32 z32 q33 z33 q34 z34; have q20 := (blk_cell B2.out 0).trans rfl; have z20 := blk_frozen B2.out 0; have q21 := (blk_cell B2.out 1).trans rfl; have z21 := blk_frozen B2.out 1; have q22 := (blk_cell B2.out 2).trans rfl; have z22 := blk_frozen B2.out 2; have q23 := (blk_cell B2.out 3).trans rfl; have z23 := blk_frozen B2.out 3; have q24 := (blk_cell B2.out 4).trans rfl; have z24 := blk_frozen B2.out 4; have q30 := (blk_cell B3.out 0).trans rfl; have z30 := blk_frozen B3.out 0; have q31 := (blk_cell B3.out 1).trans rfl; have z31 := blk_frozen B3.out 1; have q32 := (blk_cell B3.out 2).trans rfl; have z32 := blk_frozen B3.out 2; have q33 := (blk_cell B3.out 3).trans rfl; have z33 := blk_frozen B3.out 3; have q34 := (blk_cell B3.out 4).trans rfl; have z34 := blk_frozen B3.out 4)
              | (go_at_call 67; (with_reducible refine ((term_calls13 w0 _ rb rest hby H1.out.st).mono (fun e w' hr => (HN1.out e w' _ hr))).mono ?_); rintro e w2 ⟨v, rfl, rfl, hs, hk⟩; replace B2 := Aside0.mk (H1.out.blk B2.out G2.out hk); have H2 := Aside0.mk (H1.out.call hs hk); clear hs hk q20 z20 q21 z21 q22 z22 q23 z23 q24 z24; have q20 := (blk_cell B2.out 0).trans rfl; have z20 := blk_frozen B2.out 0; have q21 := (blk_cell B2.out 1).trans rfl; have z21 := blk_frozen B2.out 1; have q22 := (blk_cell B2.out 2).trans rfl; have z22 := blk_frozen B2.out 2; have q23 := (blk_cell B2.out 3).trans rfl; have z23 := blk_frozen B2.out 3; have q24 := (blk_cell B2.out 4).trans rfl; have z24 := blk_frozen B2.out 4)
              | ((with_reducible refine gate_dst (N := 3) rfl ?_); refine box_event ?hg (N := 3) ?hd (cs := #[.int .i64 0, .int .i64 0, .string (⟨#[]⟩ : ByteArray), .string (⟨#[]⟩ : ByteArray), .slice none 0 0]) (t := 26) ?hr ?_; (case hd => rfl); (case hg => rfl); (case hr => first | (go_simp; done) | (go_simp; rfl)); intro b3 hb3 wb3 hbox hb; have H3 := Aside0.mk (H2.out.up hb); have B3 := Aside0.mk hbox; have G3 := Aside0.mk (show w.heap.size ≤ b3 by have := (H2.out.keep).1; omega); have N3 := Aside0.mk (show b2 ≠ b3 by have := blk_lt B2.out; omega); replace B2 := Aside0.mk (blk_below B2.out hb); have hne1 := N3.out; have hne2 := Ne.symm N3.out; clear hb3 hbox hb; have q30 := (blk_cell B3.out 0).trans rfl; have z30 := blk_frozen B3.out 0; have q31 := (blk_cell B3.out 1).trans rfl; have z31 := blk_frozen B3.out 1; have q32 := (blk_cell B3.out 2).trans rfl; have z32 := blk_frozen B3.out 2; have q33 := (blk_cell B3.out 3).trans rfl; have z33 := blk_frozen B3.out 3; have q34 := (blk_cell B3.out 4).trans rfl; have z34 := blk_frozen B3.out 4))
            exact ⟨rfl, Reads.upped HK.out HB.out⟩
          | ok p =>
            obtain ⟨l, r5⟩ := p
            have HN5 := Aside0.mk (show ∀ e w' W, Reads w0 W rb (manyR (termR 14 0) k r4) (ValL W) e w' → ∃ v, e = .returned v ∧ ValL W l w' v ∧ Rst w0 w' rb r5 ∧ KeepBut W w' rb none from fun e w' W hr => by rw [hHN5] at hr; exact hr.okv)
            have er : atomR rest = .ok ((t, strOf b, l), r5) := by unfold atomR; rw [Rd.then_ok hHN1, Rd.then_ok hHN2, Int.toNat_natCast, Rd.then_ok hHN3, hyes, needR_true, Rd.then_give, Rd.then_ok hHN4, Int.toNat_natCast, Rd.then_ok hHN5]; rfl
            rw [er]
            clear hHN1 hHN2 hHN3 hHN4 hHN5 er hyes hCK
            go_enter Tryd.func32, Tryd.ntmps32
            go_wp2_with (first
              | ((with_reducible refine gate_dst (N := 2) rfl ?_); refine box_event ?hg (N := 2) ?hd (cs := #[.int .i64 0, .int .i64 0, .string (⟨#[]⟩ : ByteArray), .string (⟨#[]⟩ : ByteArray), .slice none 0 0]) (t := 26) ?hr ?_; (case hd => rfl); (case hg => rfl); (case hr => first | (go_simp; done) | (go_simp; rfl)); intro b2 hb2 wb2 hbox hb; have H1 := Aside0.mk (HS.out.up hb); have B2 := Aside0.mk hbox; have G2 := Aside0.mk (show w.heap.size ≤ b2 by have := (HS.out.keep).1; omega); clear hb2 hbox hb; have q20 := (blk_cell B2.out 0).trans rfl; have z20 := blk_frozen B2.out 0; have q21 := (blk_cell B2.out 1).trans rfl; have z21 := blk_frozen B2.out 1; have q22 := (blk_cell B2.out 2).trans rfl; have z22 := blk_frozen B2.out 2; have q23 := (blk_cell B2.out 3).trans rfl; have z23 := blk_frozen B2.out 3; have q24 := (blk_cell B2.out 4).trans rfl; have z24 := blk_frozen B2.out 4)
              | (go_at_call 70; (with_reducible refine ((HMANY.out _ H8.out.st).mono (fun e w' hr => (HN5.out e w' _ hr))).mono ?_); rintro e w9 ⟨sl, rfl, hL, hs, hk⟩; obtain ⟨Al, cl, rfl⟩ := Kd.R_slice hL; have L2 := Aside0.mk (show b2 < w8.heap.size from blk_lt B2.out); have L3 := Aside0.mk (show b3 < w8.heap.size from blk_lt B3.out); replace B2 := Aside0.mk (H8.out.blk B2.out G2.out hk); replace B3 := Aside0.mk (H8.out.blk B3.out G3.out hk); have HS8 := Aside0.mk H8.out.keep.1; have H9 := Aside0.mk (H8.out.call hs hk); have HL := Aside0.mk hL; clear hs hk hL q20 z20 q21 z21 q22 z22 q23 z23 q24 z24 q30 z30 q31 z31 q32 z32 q33 z33 q34 z34; have q20 := (blk_cell B2.out 0).trans rfl; have z20 := blk_frozen B2.out 0; have q21 := (blk_cell B2.out 1).trans rfl; have z21 := blk_frozen B2.out 1; have q22 := (blk_cell B2.out 2).trans rfl; have z22 := blk_frozen B2.out 2; have q23 := (blk_cell B2.out 3).trans rfl; have z23 := blk_frozen B2.out 3; have q24 := (blk_cell B2.out 4).trans rfl; have z24 := blk_frozen B2.out 4; have q30 := (blk_cell B3.out 0).trans rfl; have z30 := blk_frozen B3.out 0; have q31 := (blk_cell B3.out 1).trans rfl; have z31 := blk_frozen B3.out 1; have q32 := (blk_cell B3.out 2).trans rfl; have z32 := blk_frozen B3.out 2; have q33 := (blk_cell B3.out 3).trans rfl; have z33 := blk_frozen B3.out 3; have q34 := (blk_cell B3.out 4).trans rfl; have z34 := blk_frozen B3.out 4)
              | (go_at_call 69; (with_reducible refine ((small_calls w0 _ rb r3 0 8 hby3 H6.out.st).mono (fun e w' hr => (HN4.out e w' _ hr))).mono ?_); rintro e w8 ⟨v, rfl, rfl, hs, hk⟩; replace B2 := Aside0.mk (H6.out.blk B2.out G2.out hk); replace B3 := Aside0.mk (H6.out.blk B3.out G3.out hk); have H8 := Aside0.mk (H6.out.call hs hk); clear hs hk q20 z20 q21 z21 q22 z22 q23 z23 q24 z24 q30 z30 q31 z31 q32 z32 q33 z33 q34 z34; have q20 := (blk_cell B2.out 0).trans rfl; have z20 := blk_frozen B2.out 0; have q21 := (blk_cell B2.out 1).trans rfl; have z21 := blk_frozen B2.out 1; have q22 := (blk_cell B2.out 2).trans rfl; have z22 := blk_frozen B2.out 2; have q23 := (blk_cell B2.out 3).trans rfl; have z23 := blk_frozen B2.out 3; have q24 := (blk_cell B2.out 4).trans rfl; have z24 := blk_frozen B2.out 4; have q30 := (blk_cell B3.out 0).trans rfl; have z30 := blk_frozen B3.out 0; have q31 := (blk_cell B3.out 1).trans rfl; have z31 := blk_frozen B3.out 1; have q32 := (blk_cell B3.out 2).trans rfl; have z32 := blk_frozen B3.out 2; have q33 := (blk_cell B3.out 3).trans rfl; have z33 := blk_frozen B3.out 3; have q34 := (blk_cell B3.out 4).trans rfl; have z34 := blk_frozen B3.out 4)
              | (go_at_call 66; (with_reducible refine (need_true 63 _).mono ?_); rintro e w7 ⟨rfl, rfl⟩)
              | (go_at_call 26; (with_reducible refine (HCKC.out _ (below_of (H5.out.set G3.out 3 (.string (strOf b))))).mono ?_); rintro e w6 ⟨rfl, hb⟩; replace B2 := Aside0.mk (blk_below (far1 (j := 3) (x := .string (strOf b)) B2.out N3.out) hb); replace B3 := Aside0.mk (blk_below (blk_set B3.out 3 (.string (strOf b))) hb); have H6 := Aside0.mk ((H5.out.set G3.out 3 (.string (strOf b))).up hb); clear hb q20 z20 q21 z21 q22 z22 q23 z23 q24 z24 q30 z30 q31 z31 q32 z32 q33 z33 q34 z34; have q20 := (blk_cell B2.out 0).trans rfl; have z20 := blk_frozen B2.out 0; have q21 := (blk_cell B2.out 1).trans rfl; have z21 := blk_frozen B2.out 1; have q22 := (blk_cell B2.out 2).trans rfl; have z22 := blk_frozen B2.out 2; have q23 := (blk_cell B2.out 3).trans rfl; have z23 := blk_frozen B2.out 3; have q24 := (blk_cell B2.out 4).trans rfl; have z24 := blk_frozen B2.out 4; have q30 := (blk_cell B3.out 0).trans rfl; have z30 := blk_frozen B3.out 0; have q31 := (blk_cell B3.out 1).trans rfl; have z31 := blk_frozen B3.out 1; have q32 := (blk_cell B3.out 2).trans rfl; have z32 := blk_frozen B3.out 2; have q33 := (blk_cell B3.out 3).trans rfl; have z33 := blk_frozen B3.out 3; have q34 := (blk_cell B3.out 4).trans rfl; have z34 := blk_frozen B3.out 4)
              | (go_at_call 68; (with_reducible refine ((take_calls w0 _ rb r2 m HM.out H4.out.st).mono (fun e w' hr => (HN3.out e w' _ hr))).mono ?_); rintro e w5 ⟨v, rfl, ⟨A, c, rfl, hA⟩, hs, hk⟩; replace B2 := Aside0.mk (H4.out.blk B2.out G2.out hk); replace B3 := Aside0.mk (H4.out.blk B3.out G3.out hk); have H5 := Aside0.mk (H4.out.call hs hk); have hstr := string_of_reads (P := Tryd.prog) (src := 27) (dst := 9) (c := c) Tryd.underlying27 Tryd.underlying5 Tryd.underlying9 (hA.below hs.below); clear hA; clear hs hk q20 z20 q21 z21 q22 z22 q23 z23 q24 z24 q30 z30 q31 z31 q32 z32 q33 z33 q34 z34; have q20 := (blk_cell B2.out 0).trans rfl; have z20 := blk_frozen B2.out 0; have q21 := (blk_cell B2.out 1).trans rfl; have z21 := blk_frozen B2.out 1; have q22 := (blk_cell B2.out 2).trans rfl; have z22 := blk_frozen B2.out 2; have q23 := (blk_cell B2.out 3).trans rfl; have z23 := blk_frozen B2.out 3; have q24 := (blk_cell B2.out 4).trans rfl; have z24 := blk_frozen B2.out 4; have q30 := (blk_cell B3.out 0).trans rfl; have z30 := blk_frozen B3.out 0; have q31 := (blk_cell B3.out 1).trans rfl; have z31 := blk_frozen B3.out 1; have q32 := (blk_cell B3.out 2).trans rfl; have z32 := blk_frozen B3.out 2; have q33 := (blk_cell B3.out 3).trans rfl; have z33 := blk_frozen B3.out 3; have q34 := (blk_cell B3.out 4).trans rfl; have z34 := blk_frozen B3.out 4)
              | (go_at_call 69; (with_reducible refine ((small_calls w0 _ rb r1 1 32 hby1 (H3.out.set5 G3.out).st).mono (fun e w' hr => (HN2.out e w' _ hr))).mono ?_); rintro e w4 ⟨v, rfl, rfl, hs, hk⟩; replace B2 := Aside0.mk ((H3.out.set5 G3.out).blk (far5 B2.out N3.out) G2.out hk); replace B3 := Aside0.mk ((H3.out.set5 G3.out).blk (blk5 B3.out) G3.out hk); have H4 := Aside0.mk ((H3.out.set5 G3.out).call hs hk); clear hs hk q20 z20 q21 z21 q22 z22 q23 z23 q24 z24 q30 z30 q31 z31 q32 z32 q33 z33 q34 z34; have q20 := (blk_cell B2.out 0).trans rfl; have z20 := blk_frozen B2.out 0; have q21 := (blk_cell B2.out 1).trans rfl; have z21 := blk_frozen B2.out 1; have q22 := (blk_cell B2.out 2).trans rfl; have z22 := blk_frozen B2.out 2; have q23 := (blk_cell B2.out 3).trans rfl; have z23 := blk_frozen B2.out 3; have q24 := (blk_cell B2.out 4).trans rfl; have z24 := blk_frozen B2.out 4; have q30 := (blk_cell B3.out 0).trans rfl; have z30 := blk_frozen B3.out 0; have q31 := (blk_cell B3.out 1).trans rfl; have z31 := blk_frozen B3.out 1; have q32 := (blk_cell B3.out 2).trans rfl; have z32 := blk_frozen B3.out 2; have q33 := (blk_cell B3.out 3).trans rfl; have z33 := blk_frozen B3.out 3; have q34 := (blk_cell B3.out 4).trans rfl; have z34 := blk_frozen B3.out 4)
              | (go_at_call 67; (with_reducible refine ((term_calls13 w0 _ rb rest hby H1.out.st).mono (fun e w' hr => (HN1.out e w' _ hr))).mono ?_); rintro e w2 ⟨v, rfl, rfl, hs, hk⟩; replace B2 := Aside0.mk (H1.out.blk B2.out G2.out hk); have H2 := Aside0.mk (H1.out.call hs hk); clear hs hk q20 z20 q21 z21 q22 z22 q23 z23 q24 z24; have q20 := (blk_cell B2.out 0).trans rfl; have z20 := blk_frozen B2.out 0; have q21 := (blk_cell B2.out 1).trans rfl; have z21 := blk_frozen B2.out 1; have q22 := (blk_cell B2.out 2).trans rfl; have z22 := blk_frozen B2.out 2; have q23 := (blk_cell B2.out 3).trans rfl; have z23 := blk_frozen B2.out 3; have q24 := (blk_cell B2.out 4).trans rfl; have z24 := blk_frozen B2.out 4)
              | ((with_reducible refine gate_dst (N := 3) rfl ?_); refine box_event ?hg (N := 3) ?hd (cs := #[.int .i64 0, .int .i64 0, .string (⟨#[]⟩ : ByteArray), .string (⟨#[]⟩ : ByteArray), .slice none 0 0]) (t := 26) ?hr ?_; (case hd => rfl); (case hg => rfl); (case hr => first | (go_simp; done) | (go_simp; rfl)); intro b3 hb3 wb3 hbox hb; have H3 := Aside0.mk (H2.out.up hb); have B3 := Aside0.mk hbox; have G3 := Aside0.mk (show w.heap.size ≤ b3 by have := (H2.out.keep).1; omega); have N3 := Aside0.mk (show b2 ≠ b3 by have := blk_lt B2.out; omega); replace B2 := Aside0.mk (blk_below B2.out hb); have hne1 := N3.out; have hne2 := Ne.symm N3.out; clear hb3 hbox hb; have q30 := (blk_cell B3.out 0).trans rfl; have z30 := blk_frozen B3.out 0; have q31 := (blk_cell B3.out 1).trans rfl; have z31 := blk_frozen B3.out 1; have q32 := (blk_cell B3.out 2).trans rfl; have z32 := blk_frozen B3.out 2; have q33 := (blk_cell B3.out 3).trans rfl; have z33 := blk_frozen B3.out 3; have q34 := (blk_cell B3.out 4).trans rfl; have z34 := blk_frozen B3.out 4))
            refine bodyPost_ret (results_cell_row rfl _ _ b2 26 #[.int .i64 t.f0, .int .i64 t.f1, .string t.f2, .string (strOf b), .slice Al l.length cl] (0, 0) _ rfl (blk5 (far1 B2.out N3.out)) Tryd.underlying26 rfl (by kernel_rfl)) rfl ?_
            exact Reads.give ((H9.out.set G3.out 4 _).set5 G2.out).keep ((H9.out.set G3.out 4 _).set5 G2.out).st ⟨_, rfl, (((((((HL.out.far L3.out 4 _).far L2.out 0 _).far L2.out 1 _).far L2.out 2 _).far L2.out 3 _).far L2.out 4 _).lower HS8.out)⟩
end Go.Proofs.YtdplpcedfkfajaaDoor.T
/- The walks of codec's read at Atom: a fault is caught behind the door; ReadAtom. -/
set_option linter.unusedVariables false
set_option linter.unusedSimpArgs false
namespace Go.Proofs.YtdplpcedfkfajaaDoor.T
open Go.RowKit Go.Proofs.YtdplpcedfkfajaaDoorW.PrintWords Go.Proofs.YtdplpcedfkfajaaDoorW.PrintLast
set_option maxRecDepth 100000 in
theorem catch_idle (p q : Addr) (w : World) :
    CallsD Tryd.prog 65 #[.pointer (some p), .pointer (some q)] .returning w fun e u' w' => e = .returned (.tuple #[]) ∧ u' = .returning ∧ w' = w := by
  refine callsD_of_wpS Tryd.func65 rfl fun c₀ cs hu => ?_
  apply wpS_seq
  apply wpS_region
  simp [wpOpsS, go_sem, recoverD, hu, Tryd.ntmps65, Exit.thenS]
  refine wpS_of_wp ?_
  go_wp2
  cases c₀
  simp_all [bodyPostS, results, Tryd.results65]
theorem setCell_size (W : World) (p : Addr) (u : Value) : (W.setCell p u).heap.size = W.heap.size := by simp [World.setCell]
theorem bw_step {w w1 w2 : World} {m3 : Nat} {u : Value} (W1 : Below w.heap.size w w1) (G3 : w.heap.size ≤ m3) (hb : Below (w1.setCell ⟨m3, 0, none⟩ u).heap.size (w1.setCell ⟨m3, 0, none⟩ u) w2) : ∀ (a : World), Below a.heap.size a w → Below a.heap.size a w2 := fun a h => by
  have h0 : a.heap.size ≤ w.heap.size := h.size
  have h1 := below_then h h0 W1
  have h2 : Below a.heap.size a (w1.setCell ⟨m3, 0, none⟩ u) := h1.setCell (Nat.le_trans h0 G3) _
  exact below_then h2 (by rw [setCell_size]; exact Nat.le_trans h0 W1.size) hb
theorem drew_facts {w W : World} {b4 b5 : Nat} {o4 o5 : Option Obj} (h : W.heap[b4]? = o4 ∧ W.heap[b5]? = o5 ∧ ∀ (a : World), Below a.heap.size a w → a.heap.size ≤ b4 → a.heap.size ≤ b5 → Below a.heap.size a W) :
    W.drew.heap[b4]? = o4 ∧ W.drew.heap[b5]? = o5 ∧ ∀ (a : World), Below a.heap.size a w → a.heap.size ≤ b4 → a.heap.size ≤ b5 → Below a.heap.size a W.drew := ⟨h.1, h.2.1, fun a h1 h2 h3 => below_drew (h.2.2 a h1 h2 h3)⟩
theorem after_sets {w w2 : World} {b4 b5 : Nat} {c : Int} {y0 y1 y2 y3 y4 e0 : Value} (h4 : w2.heap[b4]? = some (.cells #[y0, y1, y2, y3, y4] 26 (0, 0))) (h5 : w2.heap[b5]? = some (.cells #[e0] 29 (0, 0))) (hne : b4 ≠ b5) (hbw : ∀ (a : World), Below a.heap.size a w → Below a.heap.size a w2) :
    ∀ W, W = ((((((w2.setCell ⟨b4, 0, none⟩ (.int .i64 0)).setCell ⟨b4, 1, none⟩ (.int .i64 0)).setCell ⟨b4, 2, none⟩ (.string (⟨#[]⟩ : ByteArray))).setCell ⟨b4, 3, none⟩ (.string (⟨#[]⟩ : ByteArray))).setCell ⟨b4, 4, none⟩ (.slice none 0 0)).setCell ⟨b5, 0, none⟩ (.int .i64 c)) →
      W.heap[b4]? = some (.cells #[.int .i64 0, .int .i64 0, .string (⟨#[]⟩ : ByteArray), .string (⟨#[]⟩ : ByteArray), .slice none 0 0] 26 (0, 0)) ∧ W.heap[b5]? = some (.cells #[.int .i64 c] 29 (0, 0)) ∧ ∀ (a : World), Below a.heap.size a w → a.heap.size ≤ b4 → a.heap.size ≤ b5 → Below a.heap.size a W := by
  rintro W rfl
  refine ⟨blk_far (blk5 h4) (p := ⟨b5, 0, none⟩) hne _, blk_set (far5 h5 (Ne.symm hne)) 0 _, fun a hb k4 k5 => ?_⟩
  exact ((((((hbw a hb).setCell k4 _).setCell k4 _).setCell k4 _).setCell k4 _).setCell k4 _).setCell k5 _
set_option maxHeartbeats 4000000 in
set_option maxRecDepth 100000 in
theorem catch_fault (b4 b5 : Nat) (c : Int) (older : List PanicEntry) (w : World) (cs4 : Array Value) (e0 : Value) (h4 : w.heap[b4]? = some (.cells cs4 26 (0, 0))) (h4s : cs4.size = 5) (h5 : w.heap[b5]? = some (.cells #[e0] 29 (0, 0))) :
    CallsD Tryd.prog 65 #[.pointer (some ⟨b4, 0, none⟩), .pointer (some ⟨b5, 0, none⟩)] (.panicking ({ v := .iface 83 (.agg #[.int .i64 c]), recovered := false } :: older)) w fun e u' w' =>
      e = .returned (.tuple #[]) ∧ u' = .panicking ({ v := .iface 83 (.agg #[.int .i64 c]), recovered := true } :: older) ∧ w'.heap[b4]? = some (.cells #[.int .i64 0, .int .i64 0, .string (⟨#[]⟩ : ByteArray), .string (⟨#[]⟩ : ByteArray), .slice none 0 0] 26 (0, 0)) ∧ w'.heap[b5]? = some (.cells #[.int .i64 c] 29 (0, 0)) ∧ ∀ (a : World), Below a.heap.size a w → a.heap.size ≤ b4 → a.heap.size ≤ b5 → Below a.heap.size a w' := by
  have hu83 := Tryd.underlying83
  have hu26 := Tryd.underlying26
  have hu23 := Tryd.underlying23
  have hta : ∀ W, (Instr.typeAssert (.iface 83 (.agg #[.int .i64 c])) 20 83 true).run Tryd.prog W = .ok (.tuple #[.agg #[.int .i64 c], .bool true]) W := fun W => rfl
  refine callsD_of_wpS Tryd.func65 rfl fun c₀ cs hu => ?_
  apply wpS_seq
  apply wpS_region
  simp [wpOpsS, go_sem, recoverD, hu, Tryd.ntmps65, Exit.thenS]
  refine wpS_of_wp ?_
  have l4 := Aside0.mk (blk_lt h4)
  have l5 := Aside0.mk (blk_lt h5)
  have H4 := Aside0.mk h4
  have H5 := Aside0.mk h5
  obtain ⟨y0, y1, y2, y3, y4, e4⟩ : ∃ y0 y1 y2 y3 y4, cs4 = #[y0, y1, y2, y3, y4] := by
    obtain ⟨l⟩ := cs4
    match l, h4s with
    | [a, b, c, d, e], _ => exact ⟨a, b, c, d, e, rfl⟩
  subst e4
  clear h4 h5 h4s
  change Code.wp _ _ _ ⟨#[.pointer (some ⟨b4, 0, none⟩), .pointer (some ⟨b5, 0, none⟩), undef, undef, undef, undef, .iface 83 (.agg #[.int .i64 c]), undef, undef, undef, undef, undef, undef, undef, undef], []⟩ _
  go_wp2_with (first
    | ((with_reducible refine gate_dst (N := 3) rfl ?_); refine box_event ?hg (N := 3) ?hd (cs := #[.int .i64 0]) (t := 83) ?hr ?_; (case hd => rfl); (case hg => rfl); (case hr => first | (go_simp; done) | (go_simp; rfl)); intro m3 hm3 w1 hbox hb; have B3 := Aside0.mk hbox; have W1 := Aside0.mk hb; have n34 := (show m3 ≠ b4 by have := l4.out; omega); have n35 := (show m3 ≠ b5 by have := l5.out; omega); have n43 := Ne.symm n34; have n53 := Ne.symm n35; replace H4 := Aside0.mk (blk_below H4.out hb); replace H5 := Aside0.mk (blk_below H5.out hb); have G3 := Aside0.mk (show w.heap.size ≤ m3 by omega); clear hm3 hbox hb; have q3 := (blk_cell B3.out 0).trans rfl; have z3 := blk_frozen B3.out 0)
    | ((with_reducible refine gate_dst (N := 4) rfl ?_); refine box_event ?hg (N := 4) ?hd (cs := #[.int .i64 0, .int .i64 0, .string (⟨#[]⟩ : ByteArray), .string (⟨#[]⟩ : ByteArray), .slice none 0 0]) (t := 26) ?hr ?_; (case hd => rfl); (case hg => rfl); (case hr => first | (go_simp; done) | (go_simp; rfl)); intro m4 hm4 w2 hbox hb; have B4 := Aside0.mk hbox; have W2 := Aside0.mk hb; have l3 := blk_lt B3.out; have n44 := (show m4 ≠ b4 by have := blk_lt H4.out; simp at hm4; omega); have n45 := (show m4 ≠ b5 by have := blk_lt H5.out; simp at hm4; omega); have n4m := (show m4 ≠ m3 by simp at hm4; omega); have nm4 := Ne.symm n4m; have n44' := Ne.symm n44; have n45' := Ne.symm n45; have nbb := blk_ne H4.out H5.out (by decide); have nbb' := Ne.symm nbb; replace H4 := Aside0.mk (blk_below (blk_far H4.out (p := ⟨m3, 0, none⟩) (show b4 ≠ m3 from n43) (.int .i64 c)) hb); replace H5 := Aside0.mk (blk_below (blk_far H5.out (p := ⟨m3, 0, none⟩) (show b5 ≠ m3 from n53) (.int .i64 c)) hb); replace B3 := Aside0.mk (blk_below (blk_set B3.out 0 (.int .i64 c)) hb); have G4 := Aside0.mk (show w.heap.size ≤ m4 by have := W1.out.size; simp at hm4; omega); have HBW := Aside0.mk (bw_step W1.out G3.out hb); clear hm4 hbox hb q3 z3 l3; have q3 := (blk_cell B3.out 0).trans rfl; have z3 := blk_frozen B3.out 0; have q40 := (blk_cell B4.out 0).trans rfl; have u40 := (blk_cell H4.out 0).trans rfl; have z40 := blk_frozen H4.out 0; have q41 := (blk_cell B4.out 1).trans rfl; have u41 := (blk_cell H4.out 1).trans rfl; have z41 := blk_frozen H4.out 1; have q42 := (blk_cell B4.out 2).trans rfl; have u42 := (blk_cell H4.out 2).trans rfl; have z42 := blk_frozen H4.out 2; have q43 := (blk_cell B4.out 3).trans rfl; have u43 := (blk_cell H4.out 3).trans rfl; have z43 := blk_frozen H4.out 3; have q44 := (blk_cell B4.out 4).trans rfl; have u44 := (blk_cell H4.out 4).trans rfl; have z44 := blk_frozen H4.out 4; have u5 := (blk_cell H5.out 0).trans rfl; have z5 := blk_frozen H5.out 0))
  go_region_held3 (fun w' => w'.cell? ⟨m3, 0, none⟩ = some (.int .i64 c) ∧ w'.cell? ⟨m4, 0, none⟩ = some (.int .i64 0) ∧ w'.cell? ⟨m4, 1, none⟩ = some (.int .i64 0) ∧ w'.cell? ⟨m4, 2, none⟩ = some (.string (⟨#[]⟩ : ByteArray)) ∧ w'.cell? ⟨m4, 3, none⟩ = some (.string (⟨#[]⟩ : ByteArray)) ∧ w'.cell? ⟨m4, 4, none⟩ = some (.slice none 0 0))
    (go_keep) (fail)
  have HF := Aside0.mk (after_sets (c := c) H4.out H5.out nbb HBW.out _ rfl)
  clear H4 H5 HBW G3 G4 B3 B4 W1 W2 l4 l5 q3 z3 u5 z5 n34 n35 n43 n53 n44 n45 n4m nm4 n44' n45' nbb nbb' hta hu83 hu26 hu23 q40 u40 z40 q41 u41 z41 q42 u42 z42 q43 u43 z43 q44 u44 z44
  go_wp2
  exact ⟨rfl, _, rfl, .tuple #[], results_none rfl _ _ _, rfl, rfl, drew_facts HF.out⟩
end Go.Proofs.YtdplpcedfkfajaaDoor.T
/- The walk of codec's read at Atom. -/
set_option linter.unusedVariables false
set_option linter.unusedSimpArgs false
namespace Go.Proofs.YtdplpcedfkfajaaDoor.T
open Go.RowKit Go.Proofs.YtdplpcedfkfajaaDoorW.PrintWords Go.Proofs.YtdplpcedfkfajaaDoorW.PrintLast
theorem results_ce {fn : Func} {p p' : Tmp} (h : fn.results = #[.cell p 26, .cell p' 29]) (tmps : Array Value) (w : World) (g g' : Nat) (cs : Array Value) (e : Int)
    (hp : tmps.getD p undef = .pointer (some ⟨g, 0, none⟩)) (hg : w.heap[g]? = some (.cells cs 26 (0, 0))) (hs : cs.size = 5)
    (hp' : tmps.getD p' undef = .pointer (some ⟨g', 0, none⟩)) (hg' : w.heap[g']? = some (.cells #[.int .i64 e] 29 (0, 0))) :
    (results fn tmps).run Tryd.prog w = .ok (.tuple #[.agg cs, .int .i64 e]) w := by
  have h1 : tmps[p]?.getD undef = .pointer (some ⟨g, 0, none⟩) := by simpa using hp
  have h2 : tmps[p']?.getD undef = .pointer (some ⟨g', 0, none⟩) := by simpa using hp'
  have hc : w.cell? ⟨g', 0, none⟩ = some (.int .i64 e) := (blk_cell hg' 0).trans rfl
  have hu29 := Tryd.underlying29
  have l1 := run_loadVar_row (P := Tryd.prog) w g 26 26 cs (0, 0) _ hg Tryd.underlying26 rfl (by rw [hs]; kernel_rfl)
  have l2 : (loadVar 29 ⟨g', 0, none⟩).run Tryd.prog w = .ok (.int .i64 e) w := by simp [go_sem, hc, hu29]
  simp [results, h, h1, h2, asAddr, l1, l2]
/-- What read answers, by what its reader answers. -/
def readRes (r : Except Int ((Tm × ByteArray × List Tm) × List Int)) : (Tm × ByteArray × List Tm) × Int := match r with
  | .ok (x, []) => (x, 0)
  | .ok (_, _ :: _) => ((⟨0, 0, ⟨#[]⟩⟩, ⟨#[]⟩, []), 62)
  | .error c => ((⟨0, 0, ⟨#[]⟩⟩, ⟨#[]⟩, []), c)
/-- An atom and an error, handed back; the list is a row of one's own. -/
structure ReadA (w : World) (r : (Tm × ByteArray × List Tm) × Int) (e : Ending) (w' : World) : Prop where
  ex : ∃ v, e = .returned (.tuple #[v, .int .i64 r.2]) ∧ ValA w r.1 w' v
  below : Below w.heap.size w w'
theorem ReadA.fault (w w' : World) (c : Int) (hb : Below w.heap.size w w') : ReadA w (((⟨0, 0, ⟨#[]⟩⟩, ⟨#[]⟩, []) : Tm × ByteArray × List Tm), c) (.returned (.tuple #[.agg #[.int .i64 0, .int .i64 0, .string (⟨#[]⟩ : ByteArray), .string (⟨#[]⟩ : ByteArray), .slice none 0 0], .int .i64 c])) w' :=
  ⟨⟨_, rfl, _, rfl, Kd.R_nil _ _ _ _ _⟩, hb⟩
set_option maxHeartbeats 8000000 in
set_option maxRecDepth 100000 in
theorem read_calls (w : World) (A : Option Addr) (c : Nat) (bs : List Int) (hR : ReadsInt w .u8 A bs.length bs) (hc : bs.length ≤ c) (hby : isBytes bs) (hLD : Laid2 w) :
    Calls Tryd.prog 31 #[.slice A bs.length c, .func (.func 32) #[] #[]] w (ReadA w (readRes (atomR bs))) := by
  have hu26 := Tryd.underlying26
  have hu23 := Tryd.underlying23
  have hu85 := Tryd.underlying85
  have hu29 := Tryd.underlying29
  have hmf : ∀ (fn : Fn) (first cap : Array Value) (w : World), (Instr.makeFunc fn first cap).run Tryd.prog w = .ok (.func fn first cap) w := fun _ _ _ _ => rfl
  have HR := Aside0.mk hR
  have HC := Aside0.mk hc
  have HLD := Aside0.mk hLD
  clear hR hc hLD
  cases hn : atomR bs with
  | error k =>
    have HN := Aside0.mk (show ∀ e w' rb W, Reads w W rb (atomR bs) (ValA W) e w' → e = gaveUp k ∧ KeepBut W w' rb none ∧ Below w.heap.size w w' from fun e w' rb W hr => by rw [hn] at hr; exact hr.nov)
    clear hn
    go_enter_defers Tryd.func31, Tryd.ntmps31
    go_wp2_with (first
      | ((with_reducible refine gate_dst (N := 4) rfl ?_); refine box_event ?hg (N := 4) ?hd (cs := #[.int .i64 0, .int .i64 0, .string (⟨#[]⟩ : ByteArray), .string (⟨#[]⟩ : ByteArray), .slice none 0 0]) (t := 26) ?hr ?_; (case hd => rfl); (case hg => rfl); (case hr => first | (go_simp; done) | (go_simp; rfl)); intro b4 hb4 w1 hbox hb; have B4 := Aside0.mk hbox; have HB1 := Aside0.mk hb; have G4 := Aside0.mk (show w.heap.size ≤ b4 by omega); clear hb4 hbox hb)
      | ((with_reducible refine gate_dst (N := 5) rfl ?_); refine box_event ?hg (N := 5) ?hd (cs := #[.int .i64 0]) (t := 29) ?hr ?_; (case hd => rfl); (case hg => rfl); (case hr => first | (go_simp; done) | (go_simp; rfl)); intro b5 hb5 w2 hbox hb; have B5 := Aside0.mk hbox; have HB2 := Aside0.mk (below_step HB1.out hb); have N45 := Aside0.mk (show b4 ≠ b5 by have := blk_lt B4.out; omega); have G5 := Aside0.mk (show w.heap.size ≤ b5 by have := HB1.out.size; omega); replace B4 := Aside0.mk (blk_below B4.out hb); clear hb5 hbox hb)
      | ((with_reducible refine gate_dst (N := 10) rfl ?_); refine box_event ?hg (N := 10) ?hd (cs := #[.slice A bs.length c]) (t := 85) ?hr ?_; (case hd => rfl); (case hg => rfl); (case hr => first | (go_simp; done) | (go_simp; rfl)); intro rb hrb w3 hbox hb; have HB3 := Aside0.mk (below_step HB2.out hb); have NR4 := Aside0.mk (show b4 ≠ rb by have := blk_lt B4.out; omega); have NR5 := Aside0.mk (show b5 ≠ rb by have := blk_lt B5.out; omega); have HST := Aside0.mk (show Rst w w3 rb bs from ⟨⟨A, c, hbox, HC.out, HR.out⟩, HB3.out, by have := HB2.out.size; omega⟩); have GR := Aside0.mk (show w.heap.size ≤ rb by have := HB2.out.size; omega); replace B4 := Aside0.mk (blk_below B4.out hb); replace B5 := Aside0.mk (blk_below B5.out hb); clear hrb hbox hb))
    have hh := (ratom_calls w _ rb bs hby HST.out HLD.out).mono (fun e w' hr => (HN.out e w' rb _ hr))
    refine hh.mono ?_
    rintro e w4 ⟨rfl, hk, hb⟩
    replace B4 := Aside0.mk (hk.blk B4.out NR4.out (by simp))
    replace B5 := Aside0.mk (hk.blk B5.out NR5.out (by simp))
    have HB4 := Aside0.mk hb
    clear hk hb hh HN
    go_wp2
    refine leaves_cons (f := 65) (args := #[.pointer (some ⟨b4, 0, none⟩), .pointer (some ⟨b5, 0, none⟩)]) (by simp) (by simp [go_sem]) ?_
    refine (catch_fault b4 b5 k [] w4 _ _ B4.out rfl B5.out).mono ?_
    rintro e u' w5 ⟨rfl, rfl, F4, F5, FB⟩
    exact ⟨_, results_ce rfl _ _ b4 b5 _ k rfl F4 rfl rfl F5, ReadA.fault w w5 k (FB w HB4.out G4.out G5.out)⟩
  | ok p =>
    obtain ⟨⟨t, nm, l⟩, rest'⟩ := p
    have HN := Aside0.mk (show ∀ e w' rb W, Reads w W rb (atomR bs) (ValA W) e w' → ∃ v, e = .returned v ∧ ValA W (t, nm, l) w' v ∧ Rst w w' rb rest' ∧ KeepBut W w' rb none from fun e w' rb W hr => by rw [hn] at hr; exact hr.okv)
    clear hn
    cases rest' with
    | nil =>
      go_enter_defers Tryd.func31, Tryd.ntmps31
      go_wp2_with (first
        | ((with_reducible refine gate_dst (N := 4) rfl ?_); refine box_event ?hg (N := 4) ?hd (cs := #[.int .i64 0, .int .i64 0, .string (⟨#[]⟩ : ByteArray), .string (⟨#[]⟩ : ByteArray), .slice none 0 0]) (t := 26) ?hr ?_; (case hd => rfl); (case hg => rfl); (case hr => first | (go_simp; done) | (go_simp; rfl)); intro b4 hb4 w1 hbox hb; have B4 := Aside0.mk hbox; have HB1 := Aside0.mk hb; have G4 := Aside0.mk (show w.heap.size ≤ b4 by omega); clear hb4 hbox hb)
        | ((with_reducible refine gate_dst (N := 5) rfl ?_); refine box_event ?hg (N := 5) ?hd (cs := #[.int .i64 0]) (t := 29) ?hr ?_; (case hd => rfl); (case hg => rfl); (case hr => first | (go_simp; done) | (go_simp; rfl)); intro b5 hb5 w2 hbox hb; have B5 := Aside0.mk hbox; have HB2 := Aside0.mk (below_step HB1.out hb); have N45 := Aside0.mk (show b4 ≠ b5 by have := blk_lt B4.out; omega); have G5 := Aside0.mk (show w.heap.size ≤ b5 by have := HB1.out.size; omega); replace B4 := Aside0.mk (blk_below B4.out hb); clear hb5 hbox hb)
        | ((with_reducible refine gate_dst (N := 10) rfl ?_); refine box_event ?hg (N := 10) ?hd (cs := #[.slice A bs.length c]) (t := 85) ?hr ?_; (case hd => rfl); (case hg => rfl); (case hr => first | (go_simp; done) | (go_simp; rfl)); intro rb hrb w3 hbox hb; have HB3 := Aside0.mk (below_step HB2.out hb); have NR4 := Aside0.mk (show b4 ≠ rb by have := blk_lt B4.out; omega); have NR5 := Aside0.mk (show b5 ≠ rb by have := blk_lt B5.out; omega); have HST := Aside0.mk (show Rst w w3 rb bs from ⟨⟨A, c, hbox, HC.out, HR.out⟩, HB3.out, by have := HB2.out.size; omega⟩); have GR := Aside0.mk (show w.heap.size ≤ rb by have := HB2.out.size; omega); replace B4 := Aside0.mk (blk_below B4.out hb); replace B5 := Aside0.mk (blk_below B5.out hb); clear hrb hbox hb))
      have hh := (ratom_calls w _ rb bs hby HST.out HLD.out).mono (fun e w' hr => (HN.out e w' rb _ hr))
      refine hh.mono ?_
      rintro e w4 ⟨v, rfl, ⟨sl, rfl, hL⟩, hs, hk⟩
      obtain ⟨Al, cl, rfl⟩ := Kd.R_slice hL
      have B4p := B4
      have B5p := B5
      replace B4 := Aside0.mk (hk.blk B4.out NR4.out (by simp))
      replace B5 := Aside0.mk (hk.blk B5.out NR5.out (by simp))
      have HB4 := Aside0.mk hs.below
      have HL := Aside0.mk hL
      have L4 := Aside0.mk (show b4 < w3.heap.size from blk_lt B4p.out)
      have L5 := Aside0.mk (show b5 < w3.heap.size from blk_lt B5p.out)
      obtain ⟨A', c', hrb, _, _⟩ := hs.ex
      have BR := Aside0.mk hrb
      have HWS := Aside0.mk (show w.heap.size ≤ w3.heap.size from HB3.out.size)
      have n1 := NR4.out
      have n2 := Ne.symm NR4.out
      have n3 := N45.out
      have n4 := Ne.symm N45.out
      clear hk hh HN hs hL hrb
      have q40 := (blk_cell B4.out 0).trans rfl
      have z40 := blk_frozen B4.out 0
      have q41 := (blk_cell B4.out 1).trans rfl
      have z41 := blk_frozen B4.out 1
      have q42 := (blk_cell B4.out 2).trans rfl
      have z42 := blk_frozen B4.out 2
      have q43 := (blk_cell B4.out 3).trans rfl
      have z43 := blk_frozen B4.out 3
      have q44 := (blk_cell B4.out 4).trans rfl
      have z44 := blk_frozen B4.out 4
      have q5 := (blk_cell B5.out 0).trans rfl
      have z5 := blk_frozen B5.out 0
      have qr := (blk_cell BR.out 0).trans rfl
      have dl : ((([] : List Int).length : Int) == 0) = true := rfl
      go_wp2_with (first
        | (go_at_call 66; (with_reducible refine (need_true 62 _).mono ?_); rintro e w7 ⟨rfl, rfl⟩))
      refine leaves_cons (f := 65) (args := #[.pointer (some ⟨b4, 0, none⟩), .pointer (some ⟨b5, 0, none⟩)]) (by simp) (by simp [go_sem]) ?_
      refine (catch_idle _ _ _).mono ?_
      rintro e u' w8 ⟨rfl, rfl, rfl⟩
      exact ⟨_, results_ce rfl _ _ b4 b5 _ 0 rfl (blk_far (blk5 (blk5 B4.out)) (p := ⟨b5, 0, none⟩) n3 _) rfl rfl (blk_set (far5 (far5 B5.out n4) n4) 0 _), ⟨_, rfl, _, rfl, ValL.lower (((((((((((HL.out.far L4.out 0 _).far L4.out 1 _).far L4.out 2 _).far L4.out 3 _).far L4.out 4 _).far L4.out 0 _).far L4.out 1 _).far L4.out 2 _).far L4.out 3 _).far L4.out 4 _).far L5.out 0 _) HWS.out⟩, (((((((((((HB4.out.setCell G4.out _).setCell G4.out _).setCell G4.out _).setCell G4.out _).setCell G4.out _).setCell G4.out _).setCell G4.out _).setCell G4.out _).setCell G4.out _).setCell G4.out _).setCell G5.out _)⟩
    | cons y ys =>
      go_enter_defers Tryd.func31, Tryd.ntmps31
      go_wp2_with (first
        | ((with_reducible refine gate_dst (N := 4) rfl ?_); refine box_event ?hg (N := 4) ?hd (cs := #[.int .i64 0, .int .i64 0, .string (⟨#[]⟩ : ByteArray), .string (⟨#[]⟩ : ByteArray), .slice none 0 0]) (t := 26) ?hr ?_; (case hd => rfl); (case hg => rfl); (case hr => first | (go_simp; done) | (go_simp; rfl)); intro b4 hb4 w1 hbox hb; have B4 := Aside0.mk hbox; have HB1 := Aside0.mk hb; have G4 := Aside0.mk (show w.heap.size ≤ b4 by omega); clear hb4 hbox hb)
        | ((with_reducible refine gate_dst (N := 5) rfl ?_); refine box_event ?hg (N := 5) ?hd (cs := #[.int .i64 0]) (t := 29) ?hr ?_; (case hd => rfl); (case hg => rfl); (case hr => first | (go_simp; done) | (go_simp; rfl)); intro b5 hb5 w2 hbox hb; have B5 := Aside0.mk hbox; have HB2 := Aside0.mk (below_step HB1.out hb); have N45 := Aside0.mk (show b4 ≠ b5 by have := blk_lt B4.out; omega); have G5 := Aside0.mk (show w.heap.size ≤ b5 by have := HB1.out.size; omega); replace B4 := Aside0.mk (blk_below B4.out hb); clear hb5 hbox hb)
        | ((with_reducible refine gate_dst (N := 10) rfl ?_); refine box_event ?hg (N := 10) ?hd (cs := #[.slice A bs.length c]) (t := 85) ?hr ?_; (case hd => rfl); (case hg => rfl); (case hr => first | (go_simp; done) | (go_simp; rfl)); intro rb hrb w3 hbox hb; have HB3 := Aside0.mk (below_step HB2.out hb); have NR4 := Aside0.mk (show b4 ≠ rb by have := blk_lt B4.out; omega); have NR5 := Aside0.mk (show b5 ≠ rb by have := blk_lt B5.out; omega); have HST := Aside0.mk (show Rst w w3 rb bs from ⟨⟨A, c, hbox, HC.out, HR.out⟩, HB3.out, by have := HB2.out.size; omega⟩); have GR := Aside0.mk (show w.heap.size ≤ rb by have := HB2.out.size; omega); replace B4 := Aside0.mk (blk_below B4.out hb); replace B5 := Aside0.mk (blk_below B5.out hb); clear hrb hbox hb))
      have hh := (ratom_calls w _ rb bs hby HST.out HLD.out).mono (fun e w' hr => (HN.out e w' rb _ hr))
      refine hh.mono ?_
      rintro e w4 ⟨v, rfl, ⟨sl, rfl, hL⟩, hs, hk⟩
      obtain ⟨Al, cl, rfl⟩ := Kd.R_slice hL
      have B4p := B4
      have B5p := B5
      replace B4 := Aside0.mk (hk.blk B4.out NR4.out (by simp))
      replace B5 := Aside0.mk (hk.blk B5.out NR5.out (by simp))
      have HB4 := Aside0.mk hs.below
      have HL := Aside0.mk hL
      have L4 := Aside0.mk (show b4 < w3.heap.size from blk_lt B4p.out)
      have L5 := Aside0.mk (show b5 < w3.heap.size from blk_lt B5p.out)
      obtain ⟨A', c', hrb, _, _⟩ := hs.ex
      have BR := Aside0.mk hrb
      have HWS := Aside0.mk (show w.heap.size ≤ w3.heap.size from HB3.out.size)
      have n1 := NR4.out
      have n2 := Ne.symm NR4.out
      have n3 := N45.out
      have n4 := Ne.symm N45.out
      clear hk hh HN hs hL hrb
      have q40 := (blk_cell B4.out 0).trans rfl
      have z40 := blk_frozen B4.out 0
      have q41 := (blk_cell B4.out 1).trans rfl
      have z41 := blk_frozen B4.out 1
      have q42 := (blk_cell B4.out 2).trans rfl
      have z42 := blk_frozen B4.out 2
      have q43 := (blk_cell B4.out 3).trans rfl
      have z43 := blk_frozen B4.out 3
      have q44 := (blk_cell B4.out 4).trans rfl
      have z44 := blk_frozen B4.out 4
      have q5 := (blk_cell B5.out 0).trans rfl
      have z5 := blk_frozen B5.out 0
      have qr := (blk_cell BR.out 0).trans rfl
      have dl : ((ys.length : Int) + 1 == 0) = false := by simp; omega
      go_wp2_with (first
        | (go_at_call 66; (with_reducible refine (need_false 62 _).mono ?_); rintro e w7 ⟨rfl, rfl⟩))
      refine leaves_cons (f := 65) (args := #[.pointer (some ⟨b4, 0, none⟩), .pointer (some ⟨b5, 0, none⟩)]) (by simp) (by simp [go_sem]) ?_
      refine (catch_fault b4 b5 62 [] _ _ _ (blk5 B4.out) rfl (far5 B5.out n4)).mono ?_
      rintro e u' w8 ⟨rfl, rfl, F4, F5, FB⟩
      exact ⟨_, results_ce rfl _ _ b4 b5 _ 62 rfl F4 rfl rfl F5, ReadA.fault w w8 62 (FB w (((((HB4.out.setCell G4.out _).setCell G4.out _).setCell G4.out _).setCell G4.out _).setCell G4.out _) G4.out G5.out)⟩
end Go.Proofs.YtdplpcedfkfajaaDoor.T
