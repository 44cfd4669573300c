-- By a program of this session (wip/tools/myprint.py), out of the translation.
import Derived.Test.YtnomgmlfagiffaaDoorT0
import Derived.Test.YtnomgmlfagiffaaDoorT10
import Derived.Test.YtnomgmlfagiffaaDoorT16
import Derived.Test.YtnomgmlfagiffaaDoorT18
namespace Go.Proofs.YtnomgmlfagiffaaDoor.T
open Go.RowKit Go.Proofs.YtnomgmlfagiffaaDoorW.PrintWords Go.Proofs.YtnomgmlfagiffaaDoorW.PrintLast Go.Proofs.YtnomgmlfagiffaaDoorW.PrintMore
attribute [local go_sem] max2_int min2_int max_two min_two max_three min_three max_four min_four   -- for this text's walks alone
set_option linter.unusedVariables false
set_option linter.unusedSimpArgs false

/-! ### hearsayref02_Decide: function 36 -/
def hearsayref02_Decide.j0 : Nat → Bool → Int → Int → Int → ByteArray → Int → Int → ByteArray → Option (Bool × Bool)
  | 0, _, _, _, _, _, _, _, _ => none
  | k + 1, x19, x608000, x608001, x608002, x608003, x608004, x608005, x608006 => if x19 = true then (some (false, false)) else ((hearsayref02_Compare.f k x608001 x608002 x608003 x608004 x608005 x608006).bind fun t611 => (if x608000 = 1 then (some ((t611 == 0), true)) else (if x608000 = 2 then (some ((t611 != 0), true)) else (if x608000 = 3 then (some (decide (t611 < 0), true)) else (some (decide (t611 ≤ 0), true))))))
def hearsayref02_Decide.f (k : Nat) (a0_0 : Int) (a0_1 : Int) (a0_2 : Int) (a0_3 : ByteArray) (a0_4 : Int) (a0_5 : Int) (a0_6 : ByteArray) : Option (Bool × Bool) := (hearsayref02_CheckTest.f k a0_0 a0_1 a0_2 a0_3 a0_4 a0_5 a0_6).bind fun t608 => (if t608 = 0 then ((hearsayref02_Const.f a0_1 a0_2 a0_3).bind fun t609 => (if t609 = true then ((hearsayref02_Const.f a0_4 a0_5 a0_6).bind fun t610 => (hearsayref02_Decide.j0 k (!t610) a0_0 a0_1 a0_2 a0_3 a0_4 a0_5 a0_6)) else (hearsayref02_Decide.j0 k true a0_0 a0_1 a0_2 a0_3 a0_4 a0_5 a0_6))) else (hearsayref02_Decide.j0 k true a0_0 a0_1 a0_2 a0_3 a0_4 a0_5 a0_6))
theorem hearsayref02_Decide.mono_l : ∀ k, (∀ y0 y1 y2 y3 y4 y5 y6 y7, LeO (hearsayref02_Decide.j0 k y0 y1 y2 y3 y4 y5 y6 y7) (hearsayref02_Decide.j0 (k + 1) y0 y1 y2 y3 y4 y5 y6 y7))
  | 0 => fun _ _ _ _ _ _ _ _ r h => by simp [hearsayref02_Decide.j0] at h
  | k + 1 => by
    have ih0 := hearsayref02_Decide.mono_l k
    · intro y0 y1 y2 y3 y4 y5 y6 y7
      unfold hearsayref02_Decide.j0
      repeat' first
      | (with_reducible exact ih0 _ _ _ _ _ _ _ _)
      | (with_reducible exact hearsayref02_CheckTest.mono _ _ _ _ _ _ _ _)
      | (with_reducible exact hearsayref02_Compare.mono _ _ _ _ _ _ _)
      | (with_reducible exact LeO.refl _)
      | (with_reducible exact LeO.none _)
      | (with_reducible refine LeO.ite ?_ ?_)
      | (with_reducible refine LeO.bind ?_ (fun _ => ?_))
      | exact ih0 _ _ _ _ _ _ _ _
      | exact hearsayref02_CheckTest.mono _ _ _ _ _ _ _ _
      | exact hearsayref02_Compare.mono _ _ _ _ _ _ _
      | exact LeO.none _
      | refine LeO.ite ?_ ?_
      | refine LeO.bind ?_ (fun _ => ?_)
theorem hearsayref02_Decide.mono : ∀ a0 a1 a2 a3 a4 a5 a6 k, LeO (hearsayref02_Decide.f k a0 a1 a2 a3 a4 a5 a6) (hearsayref02_Decide.f (k + 1) a0 a1 a2 a3 a4 a5 a6) := by
  intro a0 a1 a2 a3 a4 a5 a6 k
  have ih0 := hearsayref02_Decide.mono_l k
  unfold hearsayref02_Decide.f
  repeat' first
      | (with_reducible exact ih0 _ _ _ _ _ _ _ _)
      | (with_reducible exact hearsayref02_CheckTest.mono _ _ _ _ _ _ _ _)
      | (with_reducible exact hearsayref02_Compare.mono _ _ _ _ _ _ _)
      | (with_reducible exact LeO.refl _)
      | (with_reducible exact LeO.none _)
      | (with_reducible refine LeO.ite ?_ ?_)
      | (with_reducible refine LeO.bind ?_ (fun _ => ?_))
      | exact ih0 _ _ _ _ _ _ _ _
      | exact hearsayref02_CheckTest.mono _ _ _ _ _ _ _ _
      | exact hearsayref02_Compare.mono _ _ _ _ _ _ _
      | exact LeO.none _
      | refine LeO.ite ?_ ?_
      | refine LeO.bind ?_ (fun _ => ?_)
set_option maxHeartbeats 8000000 in
set_option maxRecDepth 100000 in
theorem hearsayref02_Decide.calls (k : Nat) (a0_0 : Int) (a0_1 : Int) (a0_2 : Int) (a0_3 : ByteArray) (a0_4 : Int) (a0_5 : Int) (a0_6 : ByteArray) (r1 : Bool) (r2 : Bool) (w : World) (h : hearsayref02_Decide.f k a0_0 a0_1 a0_2 a0_3 a0_4 a0_5 a0_6 = some (r1, r2)) :
    Calls Tryd.prog 36 #[.agg #[.int .i64 a0_0, .int .i64 a0_1, .int .i64 a0_2, .string a0_3, .int .i64 a0_4, .int .i64 a0_5, .string a0_6]] w fun e w' => e = .returned (.tuple #[.bool r1, .bool r2]) ∧ Below w.heap.size w w' := by
  have hu50 := Tryd.underlying50
  have hu23 := Tryd.underlying23
  have HB := Aside0.mk (Below.refl w.heap.size w)
  have H : ((hearsayref02_CheckTest.f k a0_0 a0_1 a0_2 a0_3 a0_4 a0_5 a0_6).bind fun t608 => (if t608 = 0 then ((hearsayref02_Const.f a0_1 a0_2 a0_3).bind fun t609 => (if t609 = true then ((hearsayref02_Const.f a0_4 a0_5 a0_6).bind fun t610 => (hearsayref02_Decide.j0 k (!t610) a0_0 a0_1 a0_2 a0_3 a0_4 a0_5 a0_6)) else (hearsayref02_Decide.j0 k true a0_0 a0_1 a0_2 a0_3 a0_4 a0_5 a0_6))) else (hearsayref02_Decide.j0 k true a0_0 a0_1 a0_2 a0_3 a0_4 a0_5 a0_6))) = some (r1, r2) := h
  clear h
  have HC2 := Aside0.mk H
  clear H
  go_enter Tryd.func36, Tryd.ntmps36
  go_upto_region 1 with (first | ((with_reducible refine gate_dst (N := 1) rfl ?_); refine box_event ?hg (N := 1) ?hd (cs := #[.int .i64 a0_0, .int .i64 a0_1, .int .i64 a0_2, .string a0_3, .int .i64 a0_4, .int .i64 a0_5, .string a0_6]) (t := 50) ?hr ?_; (case hd => rfl); (case hg => rfl); (case hr => first | (go_simp; done) | (go_simp; rfl)); intro gb607 hg w3 hbox hb; have n0_ := Aside0.mk (below_step (by repeat (first | (with_reducible first | exact HB.out | apply below_alloc | apply pw_below_drewN | apply below_drew1) | exact HB.out)) hb); have n1_ := Aside0.mk (hbox); have n2_ := Aside0.mk ((by rw [hg]; exact (below_size (by repeat (first | (with_reducible first | exact HB.out | apply below_alloc | apply pw_below_drewN | apply below_drew1) | exact HB.out))) : w.heap.size ≤ gb607)); have n3_ := Aside0.mk ((by rw [hg]; exact (below_size (by repeat (first | (with_reducible first | exact HB.out | apply below_alloc | apply pw_below_drewN | apply below_drew1) | exact HB.out))) : w.heap.size ≤ gb607)); clear HB; have HB := n0_; have BK607 := n1_; have GW607 := n2_; have GE607 := n3_; clear n0_ n1_ n2_ n3_; clear hb hbox hg))
  (try simp only [Act.put, List.setIfInBounds_toArray, List.set_cons_zero, List.set_cons_succ])
  go_cut [19] (fun v19 wc => ∃ (kq : Nat) (x19_1 : Bool), v19 = .bool x19_1 ∧ Aside0 (hearsayref02_Decide.j0 kq x19_1 a0_0 a0_1 a0_2 a0_3 a0_4 a0_5 a0_6 = some (r1, r2)) ∧ Aside0 (kq ≤ k) ∧ Aside0 (wc.heap[gb607]? = some (.cells #[.int .i64 a0_0, .int .i64 a0_1, .int .i64 a0_2, .string a0_3, .int .i64 a0_4, .int .i64 a0_5, .string a0_6] 50 (0, 0))) ∧ Aside0 (Below w.heap.size w wc))
  case first =>
    have H := HC2.out
    clear HC2
    replace H := Option.bind_eq_some_iff.mp H
    obtain ⟨t608, A40, H⟩ := H
    replace H : (if t608 = 0 then ((hearsayref02_Const.f a0_1 a0_2 a0_3).bind fun t609 => (if t609 = true then ((hearsayref02_Const.f a0_4 a0_5 a0_6).bind fun t610 => (hearsayref02_Decide.j0 k (!t610) a0_0 a0_1 a0_2 a0_3 a0_4 a0_5 a0_6)) else (hearsayref02_Decide.j0 k true a0_0 a0_1 a0_2 a0_3 a0_4 a0_5 a0_6))) else (hearsayref02_Decide.j0 k true a0_0 a0_1 a0_2 a0_3 a0_4 a0_5 a0_6)) = some (r1, r2) := H
    have A4 := Aside0.mk A40
    clear A40
    by_cases c5 : t608 = 0
    · rw [if_pos c5] at H
      have c5b0 : (t608 == 0) = true := beq_iff_eq.mpr c5
      have c5b1 : (t608 != 0) = false := bne_eq_false_iff_eq.mpr c5
      clear c5
      (first | rw [c5b0] | (simp only [i64_w, i32_w]; rw [c5b0]) | skip)
      replace H := Option.bind_eq_some_iff.mp H
      obtain ⟨t609, A60, H⟩ := H
      replace H : (if t609 = true then ((hearsayref02_Const.f a0_4 a0_5 a0_6).bind fun t610 => (hearsayref02_Decide.j0 k (!t610) a0_0 a0_1 a0_2 a0_3 a0_4 a0_5 a0_6)) else (hearsayref02_Decide.j0 k true a0_0 a0_1 a0_2 a0_3 a0_4 a0_5 a0_6)) = some (r1, r2) := H
      have A6 := Aside0.mk A60
      clear A60
      by_cases c7 : t609 = true
      · subst c7
        have H1 : ((hearsayref02_Const.f a0_4 a0_5 a0_6).bind fun t610 => (hearsayref02_Decide.j0 k (!t610) a0_0 a0_1 a0_2 a0_3 a0_4 a0_5 a0_6)) = some (r1, r2) := by rw [if_pos rfl] at H; exact H
        clear H
        have H := H1
        clear H1
        replace H := Option.bind_eq_some_iff.mp H
        obtain ⟨t610, A80, H⟩ := H
        replace H : (hearsayref02_Decide.j0 k (!t610) a0_0 a0_1 a0_2 a0_3 a0_4 a0_5 a0_6) = some (r1, r2) := H
        have A8 := Aside0.mk A80
        clear A80
        have H' := Aside0.mk H
        clear H
        have hcz9_0 : w3.cell? ⟨gb607, 0, none⟩ = some (.int .i64 a0_0) := (blk_cell BK607.out 0).trans rfl
        have hcz9_1 : w3.cell? ⟨gb607, 1, none⟩ = some (.int .i64 a0_1) := (blk_cell BK607.out 1).trans rfl
        have hcz9_2 : w3.cell? ⟨gb607, 2, none⟩ = some (.int .i64 a0_2) := (blk_cell BK607.out 2).trans rfl
        have hcz9_3 : w3.cell? ⟨gb607, 3, none⟩ = some (.string a0_3) := (blk_cell BK607.out 3).trans rfl
        have hcz9_4 : w3.cell? ⟨gb607, 4, none⟩ = some (.int .i64 a0_4) := (blk_cell BK607.out 4).trans rfl
        have hcz9_5 : w3.cell? ⟨gb607, 5, none⟩ = some (.int .i64 a0_5) := (blk_cell BK607.out 5).trans rfl
        have hcz9_6 : w3.cell? ⟨gb607, 6, none⟩ = some (.string a0_6) := (blk_cell BK607.out 6).trans rfl
        have hfz9_0 := blk_frozen BK607.out 0
        have hfz9_1 := blk_frozen BK607.out 1
        have hfz9_2 := blk_frozen BK607.out 2
        have hfz9_3 := blk_frozen BK607.out 3
        have hfz9_4 := blk_frozen BK607.out 4
        have hfz9_5 := blk_frozen BK607.out 5
        have hfz9_6 := blk_frozen BK607.out 6
        go_wp2_with (first | ((with_reducible refine gate_callee (f := 32) rfl ?_); refine goesL_ (some 6) rfl rfl Tryd.func32 (by kernel_rfl) rfl #[.agg #[.int .i64 a0_0, .int .i64 a0_1, .int .i64 a0_2, .string a0_3, .int .i64 a0_4, .int .i64 a0_5, .string a0_6]] rfl (by (try simp only [List.map_toArray, List.map_cons, List.map_nil]); first | done | rfl | (simp only [List.length_drop, List.length_take]; rfl)) ?_; (with_reducible refine (hearsayref02_CheckTest.calls k a0_0 a0_1 a0_2 a0_3 a0_4 a0_5 a0_6 t608 _ A4.out).mono ?_); rintro e w10 ⟨rfl, hb⟩; refine ⟨_, rfl, ?_⟩; have n0_ := Aside0.mk (blk_below (g := gb607) (o := .cells #[.int .i64 a0_0, .int .i64 a0_1, .int .i64 a0_2, .string a0_3, .int .i64 a0_4, .int .i64 a0_5, .string a0_6] 50 (0, 0)) (by (with_reducible repeat (first | refine blk_drewN ?_ _ | refine blk_drew ?_ | refine blk_alloc ?_ _)); exact BK607.out) hb); have n1_ := Aside0.mk (below_step (by repeat (first | (with_reducible first | exact HB.out | apply below_alloc | apply pw_below_drewN | apply below_drew1 | refine below_set ?_ GE607.out) | exact HB.out)) hb); clear BK607; clear HB; have BK607 := n0_; have HB := n1_; clear n0_ n1_; (try clear hb); (try clear hb2); (try clear hk); (try clear hi); have hcz11_0 : w10.cell? ⟨gb607, 0, none⟩ = some (.int .i64 a0_0) := (blk_cell BK607.out 0).trans rfl; have hcz11_1 : w10.cell? ⟨gb607, 1, none⟩ = some (.int .i64 a0_1) := (blk_cell BK607.out 1).trans rfl; have hcz11_2 : w10.cell? ⟨gb607, 2, none⟩ = some (.int .i64 a0_2) := (blk_cell BK607.out 2).trans rfl; have hcz11_3 : w10.cell? ⟨gb607, 3, none⟩ = some (.string a0_3) := (blk_cell BK607.out 3).trans rfl; have hcz11_4 : w10.cell? ⟨gb607, 4, none⟩ = some (.int .i64 a0_4) := (blk_cell BK607.out 4).trans rfl; have hcz11_5 : w10.cell? ⟨gb607, 5, none⟩ = some (.int .i64 a0_5) := (blk_cell BK607.out 5).trans rfl; have hcz11_6 : w10.cell? ⟨gb607, 6, none⟩ = some (.string a0_6) := (blk_cell BK607.out 6).trans rfl; have hfz11_0 := blk_frozen BK607.out 0; have hfz11_1 := blk_frozen BK607.out 1; have hfz11_2 := blk_frozen BK607.out 2; have hfz11_3 := blk_frozen BK607.out 3; have hfz11_4 := blk_frozen BK607.out 4; have hfz11_5 := blk_frozen BK607.out 5; have hfz11_6 := blk_frozen BK607.out 6) | (go_at_call 66; (with_reducible refine (hearsayref02_Const.calls a0_1 a0_2 a0_3 true _ A6.out).mono ?_); rintro e w12 ⟨rfl, hb⟩; have n0_ := Aside0.mk (blk_below (g := gb607) (o := .cells #[.int .i64 a0_0, .int .i64 a0_1, .int .i64 a0_2, .string a0_3, .int .i64 a0_4, .int .i64 a0_5, .string a0_6] 50 (0, 0)) (by (with_reducible repeat (first | refine blk_drewN ?_ _ | refine blk_drew ?_ | refine blk_alloc ?_ _)); exact BK607.out) hb); have n1_ := Aside0.mk (below_step (by repeat (first | (with_reducible first | exact HB.out | apply below_alloc | apply pw_below_drewN | apply below_drew1 | refine below_set ?_ GE607.out) | exact HB.out)) hb); clear BK607; clear HB; have BK607 := n0_; have HB := n1_; clear n0_ n1_; (try clear hb); (try clear hb2); (try clear hk); (try clear hi); have hcz13_0 : w12.cell? ⟨gb607, 0, none⟩ = some (.int .i64 a0_0) := (blk_cell BK607.out 0).trans rfl; have hcz13_1 : w12.cell? ⟨gb607, 1, none⟩ = some (.int .i64 a0_1) := (blk_cell BK607.out 1).trans rfl; have hcz13_2 : w12.cell? ⟨gb607, 2, none⟩ = some (.int .i64 a0_2) := (blk_cell BK607.out 2).trans rfl; have hcz13_3 : w12.cell? ⟨gb607, 3, none⟩ = some (.string a0_3) := (blk_cell BK607.out 3).trans rfl; have hcz13_4 : w12.cell? ⟨gb607, 4, none⟩ = some (.int .i64 a0_4) := (blk_cell BK607.out 4).trans rfl; have hcz13_5 : w12.cell? ⟨gb607, 5, none⟩ = some (.int .i64 a0_5) := (blk_cell BK607.out 5).trans rfl; have hcz13_6 : w12.cell? ⟨gb607, 6, none⟩ = some (.string a0_6) := (blk_cell BK607.out 6).trans rfl; have hfz13_0 := blk_frozen BK607.out 0; have hfz13_1 := blk_frozen BK607.out 1; have hfz13_2 := blk_frozen BK607.out 2; have hfz13_3 := blk_frozen BK607.out 3; have hfz13_4 := blk_frozen BK607.out 4; have hfz13_5 := blk_frozen BK607.out 5; have hfz13_6 := blk_frozen BK607.out 6) | (go_at_call 66; (with_reducible refine (hearsayref02_Const.calls a0_4 a0_5 a0_6 t610 _ A8.out).mono ?_); rintro e w14 ⟨rfl, hb⟩; have n0_ := Aside0.mk (blk_below (g := gb607) (o := .cells #[.int .i64 a0_0, .int .i64 a0_1, .int .i64 a0_2, .string a0_3, .int .i64 a0_4, .int .i64 a0_5, .string a0_6] 50 (0, 0)) (by (with_reducible repeat (first | refine blk_drewN ?_ _ | refine blk_drew ?_ | refine blk_alloc ?_ _)); exact BK607.out) hb); have n1_ := Aside0.mk (below_step (by repeat (first | (with_reducible first | exact HB.out | apply below_alloc | apply pw_below_drewN | apply below_drew1 | refine below_set ?_ GE607.out) | exact HB.out)) hb); clear BK607; clear HB; have BK607 := n0_; have HB := n1_; clear n0_ n1_; (try clear hb); (try clear hb2); (try clear hk); (try clear hi)))
        go_meet
        case rel => exact ⟨_, (!t610), (by first | rfl | (simp; done) | (simp [*]; done)), H', ⟨by first | omega | exact Nat.le_refl _⟩, ⟨by (with_reducible repeat (first | refine blk_drewN ?_ _ | refine blk_drew ?_ | refine blk_alloc ?_ _)); exact BK607.out⟩, ⟨by repeat (first | (with_reducible first | exact HB.out | apply below_alloc | apply pw_below_drewN | apply below_drew1 | refine below_set ?_ GE607.out) | exact HB.out)⟩⟩
      · replace c7 := Bool.eq_false_iff.mpr c7
        subst c7
        have H1 : (hearsayref02_Decide.j0 k true a0_0 a0_1 a0_2 a0_3 a0_4 a0_5 a0_6) = some (r1, r2) := by rw [if_neg (show ¬ (false = true) by decide)] at H; exact H
        clear H
        have H := H1
        clear H1
        have H' := Aside0.mk H
        clear H
        have hcz15_0 : w3.cell? ⟨gb607, 0, none⟩ = some (.int .i64 a0_0) := (blk_cell BK607.out 0).trans rfl
        have hcz15_1 : w3.cell? ⟨gb607, 1, none⟩ = some (.int .i64 a0_1) := (blk_cell BK607.out 1).trans rfl
        have hcz15_2 : w3.cell? ⟨gb607, 2, none⟩ = some (.int .i64 a0_2) := (blk_cell BK607.out 2).trans rfl
        have hcz15_3 : w3.cell? ⟨gb607, 3, none⟩ = some (.string a0_3) := (blk_cell BK607.out 3).trans rfl
        have hcz15_4 : w3.cell? ⟨gb607, 4, none⟩ = some (.int .i64 a0_4) := (blk_cell BK607.out 4).trans rfl
        have hcz15_5 : w3.cell? ⟨gb607, 5, none⟩ = some (.int .i64 a0_5) := (blk_cell BK607.out 5).trans rfl
        have hcz15_6 : w3.cell? ⟨gb607, 6, none⟩ = some (.string a0_6) := (blk_cell BK607.out 6).trans rfl
        have hfz15_0 := blk_frozen BK607.out 0
        have hfz15_1 := blk_frozen BK607.out 1
        have hfz15_2 := blk_frozen BK607.out 2
        have hfz15_3 := blk_frozen BK607.out 3
        have hfz15_4 := blk_frozen BK607.out 4
        have hfz15_5 := blk_frozen BK607.out 5
        have hfz15_6 := blk_frozen BK607.out 6
        go_wp2_with (first | ((with_reducible refine gate_callee (f := 32) rfl ?_); refine goesL_ (some 6) rfl rfl Tryd.func32 (by kernel_rfl) rfl #[.agg #[.int .i64 a0_0, .int .i64 a0_1, .int .i64 a0_2, .string a0_3, .int .i64 a0_4, .int .i64 a0_5, .string a0_6]] rfl (by (try simp only [List.map_toArray, List.map_cons, List.map_nil]); first | done | rfl | (simp only [List.length_drop, List.length_take]; rfl)) ?_; (with_reducible refine (hearsayref02_CheckTest.calls k a0_0 a0_1 a0_2 a0_3 a0_4 a0_5 a0_6 t608 _ A4.out).mono ?_); rintro e w16 ⟨rfl, hb⟩; refine ⟨_, rfl, ?_⟩; have n0_ := Aside0.mk (blk_below (g := gb607) (o := .cells #[.int .i64 a0_0, .int .i64 a0_1, .int .i64 a0_2, .string a0_3, .int .i64 a0_4, .int .i64 a0_5, .string a0_6] 50 (0, 0)) (by (with_reducible repeat (first | refine blk_drewN ?_ _ | refine blk_drew ?_ | refine blk_alloc ?_ _)); exact BK607.out) hb); have n1_ := Aside0.mk (below_step (by repeat (first | (with_reducible first | exact HB.out | apply below_alloc | apply pw_below_drewN | apply below_drew1 | refine below_set ?_ GE607.out) | exact HB.out)) hb); clear BK607; clear HB; have BK607 := n0_; have HB := n1_; clear n0_ n1_; (try clear hb); (try clear hb2); (try clear hk); (try clear hi); have hcz17_0 : w16.cell? ⟨gb607, 0, none⟩ = some (.int .i64 a0_0) := (blk_cell BK607.out 0).trans rfl; have hcz17_1 : w16.cell? ⟨gb607, 1, none⟩ = some (.int .i64 a0_1) := (blk_cell BK607.out 1).trans rfl; have hcz17_2 : w16.cell? ⟨gb607, 2, none⟩ = some (.int .i64 a0_2) := (blk_cell BK607.out 2).trans rfl; have hcz17_3 : w16.cell? ⟨gb607, 3, none⟩ = some (.string a0_3) := (blk_cell BK607.out 3).trans rfl; have hcz17_4 : w16.cell? ⟨gb607, 4, none⟩ = some (.int .i64 a0_4) := (blk_cell BK607.out 4).trans rfl; have hcz17_5 : w16.cell? ⟨gb607, 5, none⟩ = some (.int .i64 a0_5) := (blk_cell BK607.out 5).trans rfl; have hcz17_6 : w16.cell? ⟨gb607, 6, none⟩ = some (.string a0_6) := (blk_cell BK607.out 6).trans rfl; have hfz17_0 := blk_frozen BK607.out 0; have hfz17_1 := blk_frozen BK607.out 1; have hfz17_2 := blk_frozen BK607.out 2; have hfz17_3 := blk_frozen BK607.out 3; have hfz17_4 := blk_frozen BK607.out 4; have hfz17_5 := blk_frozen BK607.out 5; have hfz17_6 := blk_frozen BK607.out 6) | (go_at_call 66; (with_reducible refine (hearsayref02_Const.calls a0_1 a0_2 a0_3 false _ A6.out).mono ?_); rintro e w18 ⟨rfl, hb⟩; have n0_ := Aside0.mk (blk_below (g := gb607) (o := .cells #[.int .i64 a0_0, .int .i64 a0_1, .int .i64 a0_2, .string a0_3, .int .i64 a0_4, .int .i64 a0_5, .string a0_6] 50 (0, 0)) (by (with_reducible repeat (first | refine blk_drewN ?_ _ | refine blk_drew ?_ | refine blk_alloc ?_ _)); exact BK607.out) hb); have n1_ := Aside0.mk (below_step (by repeat (first | (with_reducible first | exact HB.out | apply below_alloc | apply pw_below_drewN | apply below_drew1 | refine below_set ?_ GE607.out) | exact HB.out)) hb); clear BK607; clear HB; have BK607 := n0_; have HB := n1_; clear n0_ n1_; (try clear hb); (try clear hb2); (try clear hk); (try clear hi)))
        go_meet
        case rel => exact ⟨_, (true), (by first | rfl | (simp; done) | (simp [*]; done)), H', ⟨by first | omega | exact Nat.le_refl _⟩, ⟨by (with_reducible repeat (first | refine blk_drewN ?_ _ | refine blk_drew ?_ | refine blk_alloc ?_ _)); exact BK607.out⟩, ⟨by repeat (first | (with_reducible first | exact HB.out | apply below_alloc | apply pw_below_drewN | apply below_drew1 | refine below_set ?_ GE607.out) | exact HB.out)⟩⟩
    · rw [if_neg c5] at H
      have c5b0 : (t608 == 0) = false := beq_eq_false_iff_ne.mpr c5
      have c5b1 : (t608 != 0) = true := bne_iff_ne.mpr c5
      (first | rw [c5b0] | (simp only [i64_w, i32_w]; rw [c5b0]) | skip)
      have H' := Aside0.mk H
      clear H
      have hcz19_0 : w3.cell? ⟨gb607, 0, none⟩ = some (.int .i64 a0_0) := (blk_cell BK607.out 0).trans rfl
      have hcz19_1 : w3.cell? ⟨gb607, 1, none⟩ = some (.int .i64 a0_1) := (blk_cell BK607.out 1).trans rfl
      have hcz19_2 : w3.cell? ⟨gb607, 2, none⟩ = some (.int .i64 a0_2) := (blk_cell BK607.out 2).trans rfl
      have hcz19_3 : w3.cell? ⟨gb607, 3, none⟩ = some (.string a0_3) := (blk_cell BK607.out 3).trans rfl
      have hcz19_4 : w3.cell? ⟨gb607, 4, none⟩ = some (.int .i64 a0_4) := (blk_cell BK607.out 4).trans rfl
      have hcz19_5 : w3.cell? ⟨gb607, 5, none⟩ = some (.int .i64 a0_5) := (blk_cell BK607.out 5).trans rfl
      have hcz19_6 : w3.cell? ⟨gb607, 6, none⟩ = some (.string a0_6) := (blk_cell BK607.out 6).trans rfl
      have hfz19_0 := blk_frozen BK607.out 0
      have hfz19_1 := blk_frozen BK607.out 1
      have hfz19_2 := blk_frozen BK607.out 2
      have hfz19_3 := blk_frozen BK607.out 3
      have hfz19_4 := blk_frozen BK607.out 4
      have hfz19_5 := blk_frozen BK607.out 5
      have hfz19_6 := blk_frozen BK607.out 6
      go_wp2_with (first | ((with_reducible refine gate_callee (f := 32) rfl ?_); refine goesL_ (some 6) rfl rfl Tryd.func32 (by kernel_rfl) rfl #[.agg #[.int .i64 a0_0, .int .i64 a0_1, .int .i64 a0_2, .string a0_3, .int .i64 a0_4, .int .i64 a0_5, .string a0_6]] rfl (by (try simp only [List.map_toArray, List.map_cons, List.map_nil]); first | done | rfl | (simp only [List.length_drop, List.length_take]; rfl)) ?_; (with_reducible refine (hearsayref02_CheckTest.calls k a0_0 a0_1 a0_2 a0_3 a0_4 a0_5 a0_6 t608 _ A4.out).mono ?_); rintro e w20 ⟨rfl, hb⟩; refine ⟨_, rfl, ?_⟩; have n0_ := Aside0.mk (blk_below (g := gb607) (o := .cells #[.int .i64 a0_0, .int .i64 a0_1, .int .i64 a0_2, .string a0_3, .int .i64 a0_4, .int .i64 a0_5, .string a0_6] 50 (0, 0)) (by (with_reducible repeat (first | refine blk_drewN ?_ _ | refine blk_drew ?_ | refine blk_alloc ?_ _)); exact BK607.out) hb); have n1_ := Aside0.mk (below_step (by repeat (first | (with_reducible first | exact HB.out | apply below_alloc | apply pw_below_drewN | apply below_drew1 | refine below_set ?_ GE607.out) | exact HB.out)) hb); clear BK607; clear HB; have BK607 := n0_; have HB := n1_; clear n0_ n1_; (try clear hb); (try clear hb2); (try clear hk); (try clear hi)))
      go_meet
      case rel => exact ⟨_, (true), (by first | rfl | (simp; done) | (simp [*]; done)), H', ⟨by first | omega | exact Nat.le_refl _⟩, ⟨by (with_reducible repeat (first | refine blk_drewN ?_ _ | refine blk_drew ?_ | refine blk_alloc ?_ _)); exact BK607.out⟩, ⟨by repeat (first | (with_reducible first | exact HB.out | apply below_alloc | apply pw_below_drewN | apply below_drew1 | refine below_set ?_ GE607.out) | exact HB.out)⟩⟩
  case rest =>
    clear HC2
    try clear p2
    try clear c3
    try clear c5
    try clear c5b0
    try clear c5b1
    try clear c7
    try clear hcz11_0
    try clear hcz11_1
    try clear hcz11_2
    try clear hcz11_3
    try clear hcz11_4
    try clear hcz11_5
    try clear hcz11_6
    try clear hcz13_0
    try clear hcz13_1
    try clear hcz13_2
    try clear hcz13_3
    try clear hcz13_4
    try clear hcz13_5
    try clear hcz13_6
    try clear hcz15_0
    try clear hcz15_1
    try clear hcz15_2
    try clear hcz15_3
    try clear hcz15_4
    try clear hcz15_5
    try clear hcz15_6
    try clear hcz17_0
    try clear hcz17_1
    try clear hcz17_2
    try clear hcz17_3
    try clear hcz17_4
    try clear hcz17_5
    try clear hcz17_6
    try clear hcz19_0
    try clear hcz19_1
    try clear hcz19_2
    try clear hcz19_3
    try clear hcz19_4
    try clear hcz19_5
    try clear hcz19_6
    try clear hcz9_0
    try clear hcz9_1
    try clear hcz9_2
    try clear hcz9_3
    try clear hcz9_4
    try clear hcz9_5
    try clear hcz9_6
    try clear hfz11_0
    try clear hfz11_1
    try clear hfz11_2
    try clear hfz11_3
    try clear hfz11_4
    try clear hfz11_5
    try clear hfz11_6
    try clear hfz13_0
    try clear hfz13_1
    try clear hfz13_2
    try clear hfz13_3
    try clear hfz13_4
    try clear hfz13_5
    try clear hfz13_6
    try clear hfz15_0
    try clear hfz15_1
    try clear hfz15_2
    try clear hfz15_3
    try clear hfz15_4
    try clear hfz15_5
    try clear hfz15_6
    try clear hfz17_0
    try clear hfz17_1
    try clear hfz17_2
    try clear hfz17_3
    try clear hfz17_4
    try clear hfz17_5
    try clear hfz17_6
    try clear hfz19_0
    try clear hfz19_1
    try clear hfz19_2
    try clear hfz19_3
    try clear hfz19_4
    try clear hfz19_5
    try clear hfz19_6
    try clear hfz9_0
    try clear hfz9_1
    try clear hfz9_2
    try clear hfz9_3
    try clear hfz9_4
    try clear hfz9_5
    try clear hfz9_6
    obtain ⟨kq, x19_1, rfl, HA, HJ1, BK607, HB⟩ := hcut
    cases kq with
    | zero => exact absurd HA.out (by simp [hearsayref02_Decide.j0])
    | succ kj1 =>
      have H := HA.out
      clear HA
      simp only [hearsayref02_Decide.j0] at H
      by_cases c21 : x19_1 = true
      · subst c21
        have H1 : (some (false, false)) = some (r1, r2) := by rw [if_pos rfl] at H; exact H
        clear H
        have H := H1
        clear H1
        simp only [Option.some.injEq, Prod.mk.injEq] at H
        obtain ⟨rfl, rfl⟩ := H
        go_wp2
        go_ret2
        exact ⟨by first | rfl | (simp [errW_none, errW_some] <;> rfl) | (simp [errW_none, errW_some, bne, show ∀ l_ : List UInt8, (l_ == []) = l_.isEmpty from fun l_ => by cases l_ <;> rfl]; done) | (simp [*, errW_none, errW_some] <;> rfl), by repeat (first | (with_reducible first | exact HB.out | apply below_alloc | apply pw_below_drewN | apply below_drew1 | refine below_set ?_ GE607.out) | exact HB.out)⟩
      · replace c21 := Bool.eq_false_iff.mpr c21
        subst c21
        have H1 : ((hearsayref02_Compare.f kj1 a0_1 a0_2 a0_3 a0_4 a0_5 a0_6).bind fun t611 => (if a0_0 = 1 then (some ((t611 == 0), true)) else (if a0_0 = 2 then (some ((t611 != 0), true)) else (if a0_0 = 3 then (some (decide (t611 < 0), true)) else (some (decide (t611 ≤ 0), true)))))) = some (r1, r2) := by rw [if_neg (show ¬ (false = true) by decide)] at H; exact H
        clear H
        have H := H1
        clear H1
        replace H := Option.bind_eq_some_iff.mp H
        obtain ⟨t611, A220, H⟩ := H
        replace H : (if a0_0 = 1 then (some ((t611 == 0), true)) else (if a0_0 = 2 then (some ((t611 != 0), true)) else (if a0_0 = 3 then (some (decide (t611 < 0), true)) else (some (decide (t611 ≤ 0), true))))) = some (r1, r2) := H
        have A22 := Aside0.mk A220
        clear A220
        by_cases c23 : a0_0 = 1
        · rw [if_pos c23] at H
          have c23b0 : (a0_0 == 1) = true := beq_iff_eq.mpr c23
          have c23b1 : (a0_0 != 1) = false := bne_eq_false_iff_eq.mpr c23
          clear c23
          simp only [Option.some.injEq, Prod.mk.injEq] at H
          obtain ⟨rfl, rfl⟩ := H
          have hcz24_0 : wc.cell? ⟨gb607, 0, none⟩ = some (.int .i64 a0_0) := (blk_cell BK607.out 0).trans rfl
          have hcz24_1 : wc.cell? ⟨gb607, 1, none⟩ = some (.int .i64 a0_1) := (blk_cell BK607.out 1).trans rfl
          have hcz24_2 : wc.cell? ⟨gb607, 2, none⟩ = some (.int .i64 a0_2) := (blk_cell BK607.out 2).trans rfl
          have hcz24_3 : wc.cell? ⟨gb607, 3, none⟩ = some (.string a0_3) := (blk_cell BK607.out 3).trans rfl
          have hcz24_4 : wc.cell? ⟨gb607, 4, none⟩ = some (.int .i64 a0_4) := (blk_cell BK607.out 4).trans rfl
          have hcz24_5 : wc.cell? ⟨gb607, 5, none⟩ = some (.int .i64 a0_5) := (blk_cell BK607.out 5).trans rfl
          have hcz24_6 : wc.cell? ⟨gb607, 6, none⟩ = some (.string a0_6) := (blk_cell BK607.out 6).trans rfl
          have hfz24_0 := blk_frozen BK607.out 0
          have hfz24_1 := blk_frozen BK607.out 1
          have hfz24_2 := blk_frozen BK607.out 2
          have hfz24_3 := blk_frozen BK607.out 3
          have hfz24_4 := blk_frozen BK607.out 4
          have hfz24_5 := blk_frozen BK607.out 5
          have hfz24_6 := blk_frozen BK607.out 6
          go_wp2_with (first | ((with_reducible refine gate_callee (f := 68) rfl ?_); refine goesL_ (some 24) rfl rfl Tryd.func68 (by kernel_rfl) rfl #[.agg #[.int .i64 a0_1, .int .i64 a0_2, .string a0_3], .agg #[.int .i64 a0_4, .int .i64 a0_5, .string a0_6]] rfl (by (try simp only [List.map_toArray, List.map_cons, List.map_nil]); first | done | rfl | (simp only [List.length_drop, List.length_take]; rfl)) ?_; (with_reducible refine (hearsayref02_Compare.calls kj1 a0_1 a0_2 a0_3 a0_4 a0_5 a0_6 t611 _ A22.out).mono ?_); rintro e w25 ⟨rfl, hb⟩; refine ⟨_, rfl, ?_⟩; have n0_ := Aside0.mk (blk_below (g := gb607) (o := .cells #[.int .i64 a0_0, .int .i64 a0_1, .int .i64 a0_2, .string a0_3, .int .i64 a0_4, .int .i64 a0_5, .string a0_6] 50 (0, 0)) (by (with_reducible repeat (first | refine blk_drewN ?_ _ | refine blk_drew ?_ | refine blk_alloc ?_ _)); exact BK607.out) hb); have n1_ := Aside0.mk (below_step (by repeat (first | (with_reducible first | exact HB.out | apply below_alloc | apply pw_below_drewN | apply below_drew1 | refine below_set ?_ GE607.out) | exact HB.out)) hb); clear BK607; clear HB; have BK607 := n0_; have HB := n1_; clear n0_ n1_; (try clear hb); (try clear hb2); (try clear hk); (try clear hi); have hcz26_0 : w25.cell? ⟨gb607, 0, none⟩ = some (.int .i64 a0_0) := (blk_cell BK607.out 0).trans rfl; have hcz26_1 : w25.cell? ⟨gb607, 1, none⟩ = some (.int .i64 a0_1) := (blk_cell BK607.out 1).trans rfl; have hcz26_2 : w25.cell? ⟨gb607, 2, none⟩ = some (.int .i64 a0_2) := (blk_cell BK607.out 2).trans rfl; have hcz26_3 : w25.cell? ⟨gb607, 3, none⟩ = some (.string a0_3) := (blk_cell BK607.out 3).trans rfl; have hcz26_4 : w25.cell? ⟨gb607, 4, none⟩ = some (.int .i64 a0_4) := (blk_cell BK607.out 4).trans rfl; have hcz26_5 : w25.cell? ⟨gb607, 5, none⟩ = some (.int .i64 a0_5) := (blk_cell BK607.out 5).trans rfl; have hcz26_6 : w25.cell? ⟨gb607, 6, none⟩ = some (.string a0_6) := (blk_cell BK607.out 6).trans rfl; have hfz26_0 := blk_frozen BK607.out 0; have hfz26_1 := blk_frozen BK607.out 1; have hfz26_2 := blk_frozen BK607.out 2; have hfz26_3 := blk_frozen BK607.out 3; have hfz26_4 := blk_frozen BK607.out 4; have hfz26_5 := blk_frozen BK607.out 5; have hfz26_6 := blk_frozen BK607.out 6))
          go_ret2
          exact ⟨by first | rfl | (simp [errW_none, errW_some] <;> rfl) | (simp [errW_none, errW_some, bne, show ∀ l_ : List UInt8, (l_ == []) = l_.isEmpty from fun l_ => by cases l_ <;> rfl]; done) | (simp [*, errW_none, errW_some] <;> rfl), by repeat (first | (with_reducible first | exact HB.out | apply below_alloc | apply pw_below_drewN | apply below_drew1 | refine below_set ?_ GE607.out) | exact HB.out)⟩
        · rw [if_neg c23] at H
          have c23b0 : (a0_0 == 1) = false := beq_eq_false_iff_ne.mpr c23
          have c23b1 : (a0_0 != 1) = true := bne_iff_ne.mpr c23
          by_cases c27 : a0_0 = 2
          · rw [if_pos c27] at H
            have c27b0 : (a0_0 == 2) = true := beq_iff_eq.mpr c27
            have c27b1 : (a0_0 != 2) = false := bne_eq_false_iff_eq.mpr c27
            clear c27
            simp only [Option.some.injEq, Prod.mk.injEq] at H
            obtain ⟨rfl, rfl⟩ := H
            have hcz28_0 : wc.cell? ⟨gb607, 0, none⟩ = some (.int .i64 a0_0) := (blk_cell BK607.out 0).trans rfl
            have hcz28_1 : wc.cell? ⟨gb607, 1, none⟩ = some (.int .i64 a0_1) := (blk_cell BK607.out 1).trans rfl
            have hcz28_2 : wc.cell? ⟨gb607, 2, none⟩ = some (.int .i64 a0_2) := (blk_cell BK607.out 2).trans rfl
            have hcz28_3 : wc.cell? ⟨gb607, 3, none⟩ = some (.string a0_3) := (blk_cell BK607.out 3).trans rfl
            have hcz28_4 : wc.cell? ⟨gb607, 4, none⟩ = some (.int .i64 a0_4) := (blk_cell BK607.out 4).trans rfl
            have hcz28_5 : wc.cell? ⟨gb607, 5, none⟩ = some (.int .i64 a0_5) := (blk_cell BK607.out 5).trans rfl
            have hcz28_6 : wc.cell? ⟨gb607, 6, none⟩ = some (.string a0_6) := (blk_cell BK607.out 6).trans rfl
            have hfz28_0 := blk_frozen BK607.out 0
            have hfz28_1 := blk_frozen BK607.out 1
            have hfz28_2 := blk_frozen BK607.out 2
            have hfz28_3 := blk_frozen BK607.out 3
            have hfz28_4 := blk_frozen BK607.out 4
            have hfz28_5 := blk_frozen BK607.out 5
            have hfz28_6 := blk_frozen BK607.out 6
            go_wp2_with (first | ((with_reducible refine gate_callee (f := 68) rfl ?_); refine goesL_ (some 24) rfl rfl Tryd.func68 (by kernel_rfl) rfl #[.agg #[.int .i64 a0_1, .int .i64 a0_2, .string a0_3], .agg #[.int .i64 a0_4, .int .i64 a0_5, .string a0_6]] rfl (by (try simp only [List.map_toArray, List.map_cons, List.map_nil]); first | done | rfl | (simp only [List.length_drop, List.length_take]; rfl)) ?_; (with_reducible refine (hearsayref02_Compare.calls kj1 a0_1 a0_2 a0_3 a0_4 a0_5 a0_6 t611 _ A22.out).mono ?_); rintro e w29 ⟨rfl, hb⟩; refine ⟨_, rfl, ?_⟩; have n0_ := Aside0.mk (blk_below (g := gb607) (o := .cells #[.int .i64 a0_0, .int .i64 a0_1, .int .i64 a0_2, .string a0_3, .int .i64 a0_4, .int .i64 a0_5, .string a0_6] 50 (0, 0)) (by (with_reducible repeat (first | refine blk_drewN ?_ _ | refine blk_drew ?_ | refine blk_alloc ?_ _)); exact BK607.out) hb); have n1_ := Aside0.mk (below_step (by repeat (first | (with_reducible first | exact HB.out | apply below_alloc | apply pw_below_drewN | apply below_drew1 | refine below_set ?_ GE607.out) | exact HB.out)) hb); clear BK607; clear HB; have BK607 := n0_; have HB := n1_; clear n0_ n1_; (try clear hb); (try clear hb2); (try clear hk); (try clear hi); have hcz30_0 : w29.cell? ⟨gb607, 0, none⟩ = some (.int .i64 a0_0) := (blk_cell BK607.out 0).trans rfl; have hcz30_1 : w29.cell? ⟨gb607, 1, none⟩ = some (.int .i64 a0_1) := (blk_cell BK607.out 1).trans rfl; have hcz30_2 : w29.cell? ⟨gb607, 2, none⟩ = some (.int .i64 a0_2) := (blk_cell BK607.out 2).trans rfl; have hcz30_3 : w29.cell? ⟨gb607, 3, none⟩ = some (.string a0_3) := (blk_cell BK607.out 3).trans rfl; have hcz30_4 : w29.cell? ⟨gb607, 4, none⟩ = some (.int .i64 a0_4) := (blk_cell BK607.out 4).trans rfl; have hcz30_5 : w29.cell? ⟨gb607, 5, none⟩ = some (.int .i64 a0_5) := (blk_cell BK607.out 5).trans rfl; have hcz30_6 : w29.cell? ⟨gb607, 6, none⟩ = some (.string a0_6) := (blk_cell BK607.out 6).trans rfl; have hfz30_0 := blk_frozen BK607.out 0; have hfz30_1 := blk_frozen BK607.out 1; have hfz30_2 := blk_frozen BK607.out 2; have hfz30_3 := blk_frozen BK607.out 3; have hfz30_4 := blk_frozen BK607.out 4; have hfz30_5 := blk_frozen BK607.out 5; have hfz30_6 := blk_frozen BK607.out 6))
            go_ret2
            exact ⟨by first | rfl | (simp [errW_none, errW_some] <;> rfl) | (simp [errW_none, errW_some, bne, show ∀ l_ : List UInt8, (l_ == []) = l_.isEmpty from fun l_ => by cases l_ <;> rfl]; done) | (simp [*, errW_none, errW_some] <;> rfl), by repeat (first | (with_reducible first | exact HB.out | apply below_alloc | apply pw_below_drewN | apply below_drew1 | refine below_set ?_ GE607.out) | exact HB.out)⟩
          · rw [if_neg c27] at H
            have c27b0 : (a0_0 == 2) = false := beq_eq_false_iff_ne.mpr c27
            have c27b1 : (a0_0 != 2) = true := bne_iff_ne.mpr c27
            by_cases c31 : a0_0 = 3
            · rw [if_pos c31] at H
              have c31b0 : (a0_0 == 3) = true := beq_iff_eq.mpr c31
              have c31b1 : (a0_0 != 3) = false := bne_eq_false_iff_eq.mpr c31
              clear c31
              simp only [Option.some.injEq, Prod.mk.injEq] at H
              obtain ⟨rfl, rfl⟩ := H
              have hcz32_0 : wc.cell? ⟨gb607, 0, none⟩ = some (.int .i64 a0_0) := (blk_cell BK607.out 0).trans rfl
              have hcz32_1 : wc.cell? ⟨gb607, 1, none⟩ = some (.int .i64 a0_1) := (blk_cell BK607.out 1).trans rfl
              have hcz32_2 : wc.cell? ⟨gb607, 2, none⟩ = some (.int .i64 a0_2) := (blk_cell BK607.out 2).trans rfl
              have hcz32_3 : wc.cell? ⟨gb607, 3, none⟩ = some (.string a0_3) := (blk_cell BK607.out 3).trans rfl
              have hcz32_4 : wc.cell? ⟨gb607, 4, none⟩ = some (.int .i64 a0_4) := (blk_cell BK607.out 4).trans rfl
              have hcz32_5 : wc.cell? ⟨gb607, 5, none⟩ = some (.int .i64 a0_5) := (blk_cell BK607.out 5).trans rfl
              have hcz32_6 : wc.cell? ⟨gb607, 6, none⟩ = some (.string a0_6) := (blk_cell BK607.out 6).trans rfl
              have hfz32_0 := blk_frozen BK607.out 0
              have hfz32_1 := blk_frozen BK607.out 1
              have hfz32_2 := blk_frozen BK607.out 2
              have hfz32_3 := blk_frozen BK607.out 3
              have hfz32_4 := blk_frozen BK607.out 4
              have hfz32_5 := blk_frozen BK607.out 5
              have hfz32_6 := blk_frozen BK607.out 6
              go_wp2_with (first | ((with_reducible refine gate_callee (f := 68) rfl ?_); refine goesL_ (some 24) rfl rfl Tryd.func68 (by kernel_rfl) rfl #[.agg #[.int .i64 a0_1, .int .i64 a0_2, .string a0_3], .agg #[.int .i64 a0_4, .int .i64 a0_5, .string a0_6]] rfl (by (try simp only [List.map_toArray, List.map_cons, List.map_nil]); first | done | rfl | (simp only [List.length_drop, List.length_take]; rfl)) ?_; (with_reducible refine (hearsayref02_Compare.calls kj1 a0_1 a0_2 a0_3 a0_4 a0_5 a0_6 t611 _ A22.out).mono ?_); rintro e w33 ⟨rfl, hb⟩; refine ⟨_, rfl, ?_⟩; have n0_ := Aside0.mk (blk_below (g := gb607) (o := .cells #[.int .i64 a0_0, .int .i64 a0_1, .int .i64 a0_2, .string a0_3, .int .i64 a0_4, .int .i64 a0_5, .string a0_6] 50 (0, 0)) (by (with_reducible repeat (first | refine blk_drewN ?_ _ | refine blk_drew ?_ | refine blk_alloc ?_ _)); exact BK607.out) hb); have n1_ := Aside0.mk (below_step (by repeat (first | (with_reducible first | exact HB.out | apply below_alloc | apply pw_below_drewN | apply below_drew1 | refine below_set ?_ GE607.out) | exact HB.out)) hb); clear BK607; clear HB; have BK607 := n0_; have HB := n1_; clear n0_ n1_; (try clear hb); (try clear hb2); (try clear hk); (try clear hi); have hcz34_0 : w33.cell? ⟨gb607, 0, none⟩ = some (.int .i64 a0_0) := (blk_cell BK607.out 0).trans rfl; have hcz34_1 : w33.cell? ⟨gb607, 1, none⟩ = some (.int .i64 a0_1) := (blk_cell BK607.out 1).trans rfl; have hcz34_2 : w33.cell? ⟨gb607, 2, none⟩ = some (.int .i64 a0_2) := (blk_cell BK607.out 2).trans rfl; have hcz34_3 : w33.cell? ⟨gb607, 3, none⟩ = some (.string a0_3) := (blk_cell BK607.out 3).trans rfl; have hcz34_4 : w33.cell? ⟨gb607, 4, none⟩ = some (.int .i64 a0_4) := (blk_cell BK607.out 4).trans rfl; have hcz34_5 : w33.cell? ⟨gb607, 5, none⟩ = some (.int .i64 a0_5) := (blk_cell BK607.out 5).trans rfl; have hcz34_6 : w33.cell? ⟨gb607, 6, none⟩ = some (.string a0_6) := (blk_cell BK607.out 6).trans rfl; have hfz34_0 := blk_frozen BK607.out 0; have hfz34_1 := blk_frozen BK607.out 1; have hfz34_2 := blk_frozen BK607.out 2; have hfz34_3 := blk_frozen BK607.out 3; have hfz34_4 := blk_frozen BK607.out 4; have hfz34_5 := blk_frozen BK607.out 5; have hfz34_6 := blk_frozen BK607.out 6))
              go_ret2
              exact ⟨by first | rfl | (simp [errW_none, errW_some] <;> rfl) | (simp [errW_none, errW_some, bne, show ∀ l_ : List UInt8, (l_ == []) = l_.isEmpty from fun l_ => by cases l_ <;> rfl]; done) | (simp [*, errW_none, errW_some] <;> rfl), by repeat (first | (with_reducible first | exact HB.out | apply below_alloc | apply pw_below_drewN | apply below_drew1 | refine below_set ?_ GE607.out) | exact HB.out)⟩
            · rw [if_neg c31] at H
              have c31b0 : (a0_0 == 3) = false := beq_eq_false_iff_ne.mpr c31
              have c31b1 : (a0_0 != 3) = true := bne_iff_ne.mpr c31
              simp only [Option.some.injEq, Prod.mk.injEq] at H
              obtain ⟨rfl, rfl⟩ := H
              have hcz35_0 : wc.cell? ⟨gb607, 0, none⟩ = some (.int .i64 a0_0) := (blk_cell BK607.out 0).trans rfl
              have hcz35_1 : wc.cell? ⟨gb607, 1, none⟩ = some (.int .i64 a0_1) := (blk_cell BK607.out 1).trans rfl
              have hcz35_2 : wc.cell? ⟨gb607, 2, none⟩ = some (.int .i64 a0_2) := (blk_cell BK607.out 2).trans rfl
              have hcz35_3 : wc.cell? ⟨gb607, 3, none⟩ = some (.string a0_3) := (blk_cell BK607.out 3).trans rfl
              have hcz35_4 : wc.cell? ⟨gb607, 4, none⟩ = some (.int .i64 a0_4) := (blk_cell BK607.out 4).trans rfl
              have hcz35_5 : wc.cell? ⟨gb607, 5, none⟩ = some (.int .i64 a0_5) := (blk_cell BK607.out 5).trans rfl
              have hcz35_6 : wc.cell? ⟨gb607, 6, none⟩ = some (.string a0_6) := (blk_cell BK607.out 6).trans rfl
              have hfz35_0 := blk_frozen BK607.out 0
              have hfz35_1 := blk_frozen BK607.out 1
              have hfz35_2 := blk_frozen BK607.out 2
              have hfz35_3 := blk_frozen BK607.out 3
              have hfz35_4 := blk_frozen BK607.out 4
              have hfz35_5 := blk_frozen BK607.out 5
              have hfz35_6 := blk_frozen BK607.out 6
              go_wp2_with (first | ((with_reducible refine gate_callee (f := 68) rfl ?_); refine goesL_ (some 24) rfl rfl Tryd.func68 (by kernel_rfl) rfl #[.agg #[.int .i64 a0_1, .int .i64 a0_2, .string a0_3], .agg #[.int .i64 a0_4, .int .i64 a0_5, .string a0_6]] rfl (by (try simp only [List.map_toArray, List.map_cons, List.map_nil]); first | done | rfl | (simp only [List.length_drop, List.length_take]; rfl)) ?_; (with_reducible refine (hearsayref02_Compare.calls kj1 a0_1 a0_2 a0_3 a0_4 a0_5 a0_6 t611 _ A22.out).mono ?_); rintro e w36 ⟨rfl, hb⟩; refine ⟨_, rfl, ?_⟩; have n0_ := Aside0.mk (blk_below (g := gb607) (o := .cells #[.int .i64 a0_0, .int .i64 a0_1, .int .i64 a0_2, .string a0_3, .int .i64 a0_4, .int .i64 a0_5, .string a0_6] 50 (0, 0)) (by (with_reducible repeat (first | refine blk_drewN ?_ _ | refine blk_drew ?_ | refine blk_alloc ?_ _)); exact BK607.out) hb); have n1_ := Aside0.mk (below_step (by repeat (first | (with_reducible first | exact HB.out | apply below_alloc | apply pw_below_drewN | apply below_drew1 | refine below_set ?_ GE607.out) | exact HB.out)) hb); clear BK607; clear HB; have BK607 := n0_; have HB := n1_; clear n0_ n1_; (try clear hb); (try clear hb2); (try clear hk); (try clear hi); have hcz37_0 : w36.cell? ⟨gb607, 0, none⟩ = some (.int .i64 a0_0) := (blk_cell BK607.out 0).trans rfl; have hcz37_1 : w36.cell? ⟨gb607, 1, none⟩ = some (.int .i64 a0_1) := (blk_cell BK607.out 1).trans rfl; have hcz37_2 : w36.cell? ⟨gb607, 2, none⟩ = some (.int .i64 a0_2) := (blk_cell BK607.out 2).trans rfl; have hcz37_3 : w36.cell? ⟨gb607, 3, none⟩ = some (.string a0_3) := (blk_cell BK607.out 3).trans rfl; have hcz37_4 : w36.cell? ⟨gb607, 4, none⟩ = some (.int .i64 a0_4) := (blk_cell BK607.out 4).trans rfl; have hcz37_5 : w36.cell? ⟨gb607, 5, none⟩ = some (.int .i64 a0_5) := (blk_cell BK607.out 5).trans rfl; have hcz37_6 : w36.cell? ⟨gb607, 6, none⟩ = some (.string a0_6) := (blk_cell BK607.out 6).trans rfl; have hfz37_0 := blk_frozen BK607.out 0; have hfz37_1 := blk_frozen BK607.out 1; have hfz37_2 := blk_frozen BK607.out 2; have hfz37_3 := blk_frozen BK607.out 3; have hfz37_4 := blk_frozen BK607.out 4; have hfz37_5 := blk_frozen BK607.out 5; have hfz37_6 := blk_frozen BK607.out 6))
              go_ret2
              exact ⟨by first | rfl | (simp [errW_none, errW_some] <;> rfl) | (simp [errW_none, errW_some, bne, show ∀ l_ : List UInt8, (l_ == []) = l_.isEmpty from fun l_ => by cases l_ <;> rfl]; done) | (simp [*, errW_none, errW_some] <;> rfl), by repeat (first | (with_reducible first | exact HB.out | apply below_alloc | apply pw_below_drewN | apply below_drew1 | refine below_set ?_ GE607.out) | exact HB.out)⟩

end Go.Proofs.YtnomgmlfagiffaaDoor.T
