-- By a program of this session (wip/tools/myprint.py), out of the translation.
import Derived.Test.YtnomgmlfagiffaaDoorT0
import Derived.Test.YtnomgmlfagiffaaDoorT8
import Derived.Test.YtnomgmlfagiffaaDoorT16
namespace Go.Proofs.YtnomgmlfagiffaaDoor.T
open Go.RowKit Go.Proofs.YtnomgmlfagiffaaDoorW.PrintWords Go.Proofs.YtnomgmlfagiffaaDoorW.PrintLast Go.Proofs.YtnomgmlfagiffaaDoorW.PrintMore
attribute [local go_sem] max2_int min2_int max_two min_two max_three min_three max_four min_four   -- for this text's walks alone
set_option linter.unusedVariables false
set_option linter.unusedSimpArgs false

/-! ### hearsayref02_CheckTest: function 32 -/
def hearsayref02_CheckTest.j0 : Nat → Bool → Int → Int → Int → ByteArray → Int → Int → ByteArray → Option (Int)
  | 0, _, _, _, _, _, _, _, _ => none
  | k + 1, x3, x595000, x595001, x595002, x595003, x595004, x595005, x595006 => (hearsayref02_Const.f x595004 x595005 x595006).bind fun t597 => (if t597 = true then (if x595000 < 1 then (some 32) else (if x595000 > 4 then (some 32) else (if x3 = true then (some 0) else (some 32)))) else ((hearsayref02_Variable.f x595004 x595005 x595006).bind fun t598 => (if x595000 < 1 then (some 32) else (if x595000 > 4 then (some 32) else (if x3 = true then (if t598 = true then (some 0) else (some 32)) else (some 32))))))
def hearsayref02_CheckTest.f (k : Nat) (a0_0 : Int) (a0_1 : Int) (a0_2 : Int) (a0_3 : ByteArray) (a0_4 : Int) (a0_5 : Int) (a0_6 : ByteArray) : Option (Int) := (hearsayref02_Const.f a0_1 a0_2 a0_3).bind fun t595 => (if t595 = true then (hearsayref02_CheckTest.j0 k true a0_0 a0_1 a0_2 a0_3 a0_4 a0_5 a0_6) else ((hearsayref02_Variable.f a0_1 a0_2 a0_3).bind fun t596 => (hearsayref02_CheckTest.j0 k t596 a0_0 a0_1 a0_2 a0_3 a0_4 a0_5 a0_6)))
theorem hearsayref02_CheckTest.mono_l : ∀ k, (∀ y0 y1 y2 y3 y4 y5 y6 y7, LeO (hearsayref02_CheckTest.j0 k y0 y1 y2 y3 y4 y5 y6 y7) (hearsayref02_CheckTest.j0 (k + 1) y0 y1 y2 y3 y4 y5 y6 y7))
  | 0 => fun _ _ _ _ _ _ _ _ r h => by simp [hearsayref02_CheckTest.j0] at h
  | k + 1 => by
    have ih0 := hearsayref02_CheckTest.mono_l k
    · intro y0 y1 y2 y3 y4 y5 y6 y7
      unfold hearsayref02_CheckTest.j0
      repeat' first
      | (with_reducible exact ih0 _ _ _ _ _ _ _ _)
      | (with_reducible exact LeO.refl _)
      | (with_reducible exact LeO.none _)
      | (with_reducible refine LeO.ite ?_ ?_)
      | (with_reducible refine LeO.bind ?_ (fun _ => ?_))
      | exact ih0 _ _ _ _ _ _ _ _
      | exact LeO.none _
      | refine LeO.ite ?_ ?_
      | refine LeO.bind ?_ (fun _ => ?_)
theorem hearsayref02_CheckTest.mono : ∀ a0 a1 a2 a3 a4 a5 a6 k, LeO (hearsayref02_CheckTest.f k a0 a1 a2 a3 a4 a5 a6) (hearsayref02_CheckTest.f (k + 1) a0 a1 a2 a3 a4 a5 a6) := by
  intro a0 a1 a2 a3 a4 a5 a6 k
  have ih0 := hearsayref02_CheckTest.mono_l k
  unfold hearsayref02_CheckTest.f
  repeat' first
      | (with_reducible exact ih0 _ _ _ _ _ _ _ _)
      | (with_reducible exact LeO.refl _)
      | (with_reducible exact LeO.none _)
      | (with_reducible refine LeO.ite ?_ ?_)
      | (with_reducible refine LeO.bind ?_ (fun _ => ?_))
      | exact ih0 _ _ _ _ _ _ _ _
      | exact LeO.none _
      | refine LeO.ite ?_ ?_
      | refine LeO.bind ?_ (fun _ => ?_)
set_option maxHeartbeats 8000000 in
set_option maxRecDepth 100000 in
theorem hearsayref02_CheckTest.calls (k : Nat) (a0_0 : Int) (a0_1 : Int) (a0_2 : Int) (a0_3 : ByteArray) (a0_4 : Int) (a0_5 : Int) (a0_6 : ByteArray) (r : Int) (w : World) (h : hearsayref02_CheckTest.f k a0_0 a0_1 a0_2 a0_3 a0_4 a0_5 a0_6 = some r) :
    Calls Tryd.prog 32 #[.agg #[.int .i64 a0_0, .int .i64 a0_1, .int .i64 a0_2, .string a0_3, .int .i64 a0_4, .int .i64 a0_5, .string a0_6]] w fun e w' => e = .returned (.int .i64 r) ∧ Below w.heap.size w w' := by
  have hu50 := Tryd.underlying50
  have hu23 := Tryd.underlying23
  have HB := Aside0.mk (Below.refl w.heap.size w)
  have H : ((hearsayref02_Const.f a0_1 a0_2 a0_3).bind fun t595 => (if t595 = true then (hearsayref02_CheckTest.j0 k true a0_0 a0_1 a0_2 a0_3 a0_4 a0_5 a0_6) else ((hearsayref02_Variable.f a0_1 a0_2 a0_3).bind fun t596 => (hearsayref02_CheckTest.j0 k t596 a0_0 a0_1 a0_2 a0_3 a0_4 a0_5 a0_6)))) = some r := h
  clear h
  have HC2 := Aside0.mk H
  clear H
  go_enter Tryd.func32, Tryd.ntmps32
  go_upto_region 1 with (first | ((with_reducible refine gate_dst (N := 1) rfl ?_); refine box_event ?hg (N := 1) ?hd (cs := #[.int .i64 a0_0, .int .i64 a0_1, .int .i64 a0_2, .string a0_3, .int .i64 a0_4, .int .i64 a0_5, .string a0_6]) (t := 50) ?hr ?_; (case hd => rfl); (case hg => rfl); (case hr => first | (go_simp; done) | (go_simp; rfl)); intro gb594 hg w3 hbox hb; have n0_ := Aside0.mk (below_step (by repeat (first | (with_reducible first | exact HB.out | apply below_alloc | apply pw_below_drewN | apply below_drew1) | exact HB.out)) hb); have n1_ := Aside0.mk (hbox); have n2_ := Aside0.mk ((by rw [hg]; exact (below_size (by repeat (first | (with_reducible first | exact HB.out | apply below_alloc | apply pw_below_drewN | apply below_drew1) | exact HB.out))) : w.heap.size ≤ gb594)); have n3_ := Aside0.mk ((by rw [hg]; exact (below_size (by repeat (first | (with_reducible first | exact HB.out | apply below_alloc | apply pw_below_drewN | apply below_drew1) | exact HB.out))) : w.heap.size ≤ gb594)); clear HB; have HB := n0_; have BK594 := n1_; have GW594 := n2_; have GE594 := n3_; clear n0_ n1_ n2_ n3_; clear hb hbox hg))
  (try simp only [Act.put, List.setIfInBounds_toArray, List.set_cons_zero, List.set_cons_succ])
  go_cut [3] (fun v3 wc => ∃ (kq : Nat) (x3_1 : Bool), v3 = .bool x3_1 ∧ Aside0 (hearsayref02_CheckTest.j0 kq x3_1 a0_0 a0_1 a0_2 a0_3 a0_4 a0_5 a0_6 = some r) ∧ Aside0 (kq ≤ k) ∧ Aside0 (wc.heap[gb594]? = some (.cells #[.int .i64 a0_0, .int .i64 a0_1, .int .i64 a0_2, .string a0_3, .int .i64 a0_4, .int .i64 a0_5, .string a0_6] 50 (0, 0))) ∧ Aside0 (Below w.heap.size w wc))
  case first =>
    have H := HC2.out
    clear HC2
    replace H := Option.bind_eq_some_iff.mp H
    obtain ⟨t595, A40, H⟩ := H
    replace H : (if t595 = true then (hearsayref02_CheckTest.j0 k true a0_0 a0_1 a0_2 a0_3 a0_4 a0_5 a0_6) else ((hearsayref02_Variable.f a0_1 a0_2 a0_3).bind fun t596 => (hearsayref02_CheckTest.j0 k t596 a0_0 a0_1 a0_2 a0_3 a0_4 a0_5 a0_6))) = some r := H
    have A4 := Aside0.mk A40
    clear A40
    by_cases c5 : t595 = true
    · subst c5
      have H1 : (hearsayref02_CheckTest.j0 k true a0_0 a0_1 a0_2 a0_3 a0_4 a0_5 a0_6) = some r := by rw [if_pos rfl] at H; exact H
      clear H
      have H := H1
      clear H1
      have H' := Aside0.mk H
      clear H
      have hcz6_0 : w3.cell? ⟨gb594, 0, none⟩ = some (.int .i64 a0_0) := (blk_cell BK594.out 0).trans rfl
      have hcz6_1 : w3.cell? ⟨gb594, 1, none⟩ = some (.int .i64 a0_1) := (blk_cell BK594.out 1).trans rfl
      have hcz6_2 : w3.cell? ⟨gb594, 2, none⟩ = some (.int .i64 a0_2) := (blk_cell BK594.out 2).trans rfl
      have hcz6_3 : w3.cell? ⟨gb594, 3, none⟩ = some (.string a0_3) := (blk_cell BK594.out 3).trans rfl
      have hcz6_4 : w3.cell? ⟨gb594, 4, none⟩ = some (.int .i64 a0_4) := (blk_cell BK594.out 4).trans rfl
      have hcz6_5 : w3.cell? ⟨gb594, 5, none⟩ = some (.int .i64 a0_5) := (blk_cell BK594.out 5).trans rfl
      have hcz6_6 : w3.cell? ⟨gb594, 6, none⟩ = some (.string a0_6) := (blk_cell BK594.out 6).trans rfl
      have hfz6_0 := blk_frozen BK594.out 0
      have hfz6_1 := blk_frozen BK594.out 1
      have hfz6_2 := blk_frozen BK594.out 2
      have hfz6_3 := blk_frozen BK594.out 3
      have hfz6_4 := blk_frozen BK594.out 4
      have hfz6_5 := blk_frozen BK594.out 5
      have hfz6_6 := blk_frozen BK594.out 6
      go_wp2_with (first | ((with_reducible refine gate_callee (f := 66) rfl ?_); refine goesL_ (some 7) rfl rfl Tryd.func66 (by kernel_rfl) rfl #[.agg #[.int .i64 a0_1, .int .i64 a0_2, .string a0_3]] rfl (by (try simp only [List.map_toArray, List.map_cons, List.map_nil]); first | done | rfl | (simp only [List.length_drop, List.length_take]; rfl)) ?_; (with_reducible refine (hearsayref02_Const.calls a0_1 a0_2 a0_3 true _ A4.out).mono ?_); rintro e w7 ⟨rfl, hb⟩; refine ⟨_, rfl, ?_⟩; have n0_ := Aside0.mk (blk_below (g := gb594) (o := .cells #[.int .i64 a0_0, .int .i64 a0_1, .int .i64 a0_2, .string a0_3, .int .i64 a0_4, .int .i64 a0_5, .string a0_6] 50 (0, 0)) (by (with_reducible repeat (first | refine blk_drewN ?_ _ | refine blk_drew ?_ | refine blk_alloc ?_ _)); exact BK594.out) hb); have n1_ := Aside0.mk (below_step (by repeat (first | (with_reducible first | exact HB.out | apply below_alloc | apply pw_below_drewN | apply below_drew1 | refine below_set ?_ GE594.out) | exact HB.out)) hb); clear BK594; clear HB; have BK594 := n0_; have HB := n1_; clear n0_ n1_; (try clear hb); (try clear hb2); (try clear hk); (try clear hi)))
      go_meet
      case rel => exact ⟨_, (true), (by first | rfl | (simp; done) | (simp [*]; done)), H', ⟨by first | omega | exact Nat.le_refl _⟩, ⟨by (with_reducible repeat (first | refine blk_drewN ?_ _ | refine blk_drew ?_ | refine blk_alloc ?_ _)); exact BK594.out⟩, ⟨by repeat (first | (with_reducible first | exact HB.out | apply below_alloc | apply pw_below_drewN | apply below_drew1 | refine below_set ?_ GE594.out) | exact HB.out)⟩⟩
    · replace c5 := Bool.eq_false_iff.mpr c5
      subst c5
      have H1 : ((hearsayref02_Variable.f a0_1 a0_2 a0_3).bind fun t596 => (hearsayref02_CheckTest.j0 k t596 a0_0 a0_1 a0_2 a0_3 a0_4 a0_5 a0_6)) = some r := by rw [if_neg (show ¬ (false = true) by decide)] at H; exact H
      clear H
      have H := H1
      clear H1
      replace H := Option.bind_eq_some_iff.mp H
      obtain ⟨t596, A80, H⟩ := H
      replace H : (hearsayref02_CheckTest.j0 k t596 a0_0 a0_1 a0_2 a0_3 a0_4 a0_5 a0_6) = some r := H
      have A8 := Aside0.mk A80
      clear A80
      have H' := Aside0.mk H
      clear H
      have hcz9_0 : w3.cell? ⟨gb594, 0, none⟩ = some (.int .i64 a0_0) := (blk_cell BK594.out 0).trans rfl
      have hcz9_1 : w3.cell? ⟨gb594, 1, none⟩ = some (.int .i64 a0_1) := (blk_cell BK594.out 1).trans rfl
      have hcz9_2 : w3.cell? ⟨gb594, 2, none⟩ = some (.int .i64 a0_2) := (blk_cell BK594.out 2).trans rfl
      have hcz9_3 : w3.cell? ⟨gb594, 3, none⟩ = some (.string a0_3) := (blk_cell BK594.out 3).trans rfl
      have hcz9_4 : w3.cell? ⟨gb594, 4, none⟩ = some (.int .i64 a0_4) := (blk_cell BK594.out 4).trans rfl
      have hcz9_5 : w3.cell? ⟨gb594, 5, none⟩ = some (.int .i64 a0_5) := (blk_cell BK594.out 5).trans rfl
      have hcz9_6 : w3.cell? ⟨gb594, 6, none⟩ = some (.string a0_6) := (blk_cell BK594.out 6).trans rfl
      have hfz9_0 := blk_frozen BK594.out 0
      have hfz9_1 := blk_frozen BK594.out 1
      have hfz9_2 := blk_frozen BK594.out 2
      have hfz9_3 := blk_frozen BK594.out 3
      have hfz9_4 := blk_frozen BK594.out 4
      have hfz9_5 := blk_frozen BK594.out 5
      have hfz9_6 := blk_frozen BK594.out 6
      go_wp2_with (first | ((with_reducible refine gate_callee (f := 66) rfl ?_); refine goesL_ (some 7) rfl rfl Tryd.func66 (by kernel_rfl) rfl #[.agg #[.int .i64 a0_1, .int .i64 a0_2, .string a0_3]] rfl (by (try simp only [List.map_toArray, List.map_cons, List.map_nil]); first | done | rfl | (simp only [List.length_drop, List.length_take]; rfl)) ?_; (with_reducible refine (hearsayref02_Const.calls a0_1 a0_2 a0_3 false _ A4.out).mono ?_); rintro e w10 ⟨rfl, hb⟩; refine ⟨_, rfl, ?_⟩; have n0_ := Aside0.mk (blk_below (g := gb594) (o := .cells #[.int .i64 a0_0, .int .i64 a0_1, .int .i64 a0_2, .string a0_3, .int .i64 a0_4, .int .i64 a0_5, .string a0_6] 50 (0, 0)) (by (with_reducible repeat (first | refine blk_drewN ?_ _ | refine blk_drew ?_ | refine blk_alloc ?_ _)); exact BK594.out) hb); have n1_ := Aside0.mk (below_step (by repeat (first | (with_reducible first | exact HB.out | apply below_alloc | apply pw_below_drewN | apply below_drew1 | refine below_set ?_ GE594.out) | exact HB.out)) hb); clear BK594; clear HB; have BK594 := n0_; have HB := n1_; clear n0_ n1_; (try clear hb); (try clear hb2); (try clear hk); (try clear hi); have hcz11_0 : w10.cell? ⟨gb594, 0, none⟩ = some (.int .i64 a0_0) := (blk_cell BK594.out 0).trans rfl; have hcz11_1 : w10.cell? ⟨gb594, 1, none⟩ = some (.int .i64 a0_1) := (blk_cell BK594.out 1).trans rfl; have hcz11_2 : w10.cell? ⟨gb594, 2, none⟩ = some (.int .i64 a0_2) := (blk_cell BK594.out 2).trans rfl; have hcz11_3 : w10.cell? ⟨gb594, 3, none⟩ = some (.string a0_3) := (blk_cell BK594.out 3).trans rfl; have hcz11_4 : w10.cell? ⟨gb594, 4, none⟩ = some (.int .i64 a0_4) := (blk_cell BK594.out 4).trans rfl; have hcz11_5 : w10.cell? ⟨gb594, 5, none⟩ = some (.int .i64 a0_5) := (blk_cell BK594.out 5).trans rfl; have hcz11_6 : w10.cell? ⟨gb594, 6, none⟩ = some (.string a0_6) := (blk_cell BK594.out 6).trans rfl; have hfz11_0 := blk_frozen BK594.out 0; have hfz11_1 := blk_frozen BK594.out 1; have hfz11_2 := blk_frozen BK594.out 2; have hfz11_3 := blk_frozen BK594.out 3; have hfz11_4 := blk_frozen BK594.out 4; have hfz11_5 := blk_frozen BK594.out 5; have hfz11_6 := blk_frozen BK594.out 6) | (go_at_call 52; (with_reducible refine (hearsayref02_Variable.calls a0_1 a0_2 a0_3 t596 _ A8.out).mono ?_); rintro e w12 ⟨rfl, hb⟩; have n0_ := Aside0.mk (blk_below (g := gb594) (o := .cells #[.int .i64 a0_0, .int .i64 a0_1, .int .i64 a0_2, .string a0_3, .int .i64 a0_4, .int .i64 a0_5, .string a0_6] 50 (0, 0)) (by (with_reducible repeat (first | refine blk_drewN ?_ _ | refine blk_drew ?_ | refine blk_alloc ?_ _)); exact BK594.out) hb); have n1_ := Aside0.mk (below_step (by repeat (first | (with_reducible first | exact HB.out | apply below_alloc | apply pw_below_drewN | apply below_drew1 | refine below_set ?_ GE594.out) | exact HB.out)) hb); clear BK594; clear HB; have BK594 := n0_; have HB := n1_; clear n0_ n1_; (try clear hb); (try clear hb2); (try clear hk); (try clear hi)))
      go_meet
      case rel => exact ⟨_, (t596), (by first | rfl | (simp; done) | (simp [*]; done)), H', ⟨by first | omega | exact Nat.le_refl _⟩, ⟨by (with_reducible repeat (first | refine blk_drewN ?_ _ | refine blk_drew ?_ | refine blk_alloc ?_ _)); exact BK594.out⟩, ⟨by repeat (first | (with_reducible first | exact HB.out | apply below_alloc | apply pw_below_drewN | apply below_drew1 | refine below_set ?_ GE594.out) | exact HB.out)⟩⟩
  case rest =>
    clear HC2
    try clear p2
    try clear c3
    try clear c5
    try clear c6
    try clear hcz11_0
    try clear hcz11_1
    try clear hcz11_2
    try clear hcz11_3
    try clear hcz11_4
    try clear hcz11_5
    try clear hcz11_6
    try clear hcz6_0
    try clear hcz6_1
    try clear hcz6_2
    try clear hcz6_3
    try clear hcz6_4
    try clear hcz6_5
    try clear hcz6_6
    try clear hcz9_0
    try clear hcz9_1
    try clear hcz9_2
    try clear hcz9_3
    try clear hcz9_4
    try clear hcz9_5
    try clear hcz9_6
    try clear hfz11_0
    try clear hfz11_1
    try clear hfz11_2
    try clear hfz11_3
    try clear hfz11_4
    try clear hfz11_5
    try clear hfz11_6
    try clear hfz6_0
    try clear hfz6_1
    try clear hfz6_2
    try clear hfz6_3
    try clear hfz6_4
    try clear hfz6_5
    try clear hfz6_6
    try clear hfz9_0
    try clear hfz9_1
    try clear hfz9_2
    try clear hfz9_3
    try clear hfz9_4
    try clear hfz9_5
    try clear hfz9_6
    obtain ⟨kq, x3_1, rfl, HA, HJ1, BK594, HB⟩ := hcut
    cases kq with
    | zero => exact absurd HA.out (by simp [hearsayref02_CheckTest.j0])
    | succ kj1 =>
      have H := HA.out
      clear HA
      simp only [hearsayref02_CheckTest.j0] at H
      replace H := Option.bind_eq_some_iff.mp H
      obtain ⟨t597, A130, H⟩ := H
      replace H : (if t597 = true then (if a0_0 < 1 then (some 32) else (if a0_0 > 4 then (some 32) else (if x3_1 = true then (some 0) else (some 32)))) else ((hearsayref02_Variable.f a0_4 a0_5 a0_6).bind fun t598 => (if a0_0 < 1 then (some 32) else (if a0_0 > 4 then (some 32) else (if x3_1 = true then (if t598 = true then (some 0) else (some 32)) else (some 32)))))) = some r := H
      have A13 := Aside0.mk A130
      clear A130
      by_cases c14 : t597 = true
      · subst c14
        have H1 : (if a0_0 < 1 then (some 32) else (if a0_0 > 4 then (some 32) else (if x3_1 = true then (some 0) else (some 32)))) = some r := by rw [if_pos rfl] at H; exact H
        clear H
        have H := H1
        clear H1
        by_cases c15 : a0_0 < 1
        · rw [if_pos c15] at H
          have c15b0 : decide (a0_0 < 1) = true := decide_eq_true c15
          clear c15
          obtain rfl := Option.some.inj H
          have hcz16_0 : wc.cell? ⟨gb594, 0, none⟩ = some (.int .i64 a0_0) := (blk_cell BK594.out 0).trans rfl
          have hcz16_1 : wc.cell? ⟨gb594, 1, none⟩ = some (.int .i64 a0_1) := (blk_cell BK594.out 1).trans rfl
          have hcz16_2 : wc.cell? ⟨gb594, 2, none⟩ = some (.int .i64 a0_2) := (blk_cell BK594.out 2).trans rfl
          have hcz16_3 : wc.cell? ⟨gb594, 3, none⟩ = some (.string a0_3) := (blk_cell BK594.out 3).trans rfl
          have hcz16_4 : wc.cell? ⟨gb594, 4, none⟩ = some (.int .i64 a0_4) := (blk_cell BK594.out 4).trans rfl
          have hcz16_5 : wc.cell? ⟨gb594, 5, none⟩ = some (.int .i64 a0_5) := (blk_cell BK594.out 5).trans rfl
          have hcz16_6 : wc.cell? ⟨gb594, 6, none⟩ = some (.string a0_6) := (blk_cell BK594.out 6).trans rfl
          have hfz16_0 := blk_frozen BK594.out 0
          have hfz16_1 := blk_frozen BK594.out 1
          have hfz16_2 := blk_frozen BK594.out 2
          have hfz16_3 := blk_frozen BK594.out 3
          have hfz16_4 := blk_frozen BK594.out 4
          have hfz16_5 := blk_frozen BK594.out 5
          have hfz16_6 := blk_frozen BK594.out 6
          go_wp2_with (first | ((with_reducible refine gate_callee (f := 66) rfl ?_); refine goesL_ (some 15) rfl rfl Tryd.func66 (by kernel_rfl) rfl #[.agg #[.int .i64 a0_4, .int .i64 a0_5, .string a0_6]] rfl (by (try simp only [List.map_toArray, List.map_cons, List.map_nil]); first | done | rfl | (simp only [List.length_drop, List.length_take]; rfl)) ?_; (with_reducible refine (hearsayref02_Const.calls a0_4 a0_5 a0_6 true _ A13.out).mono ?_); rintro e w17 ⟨rfl, hb⟩; refine ⟨_, rfl, ?_⟩; have n0_ := Aside0.mk (blk_below (g := gb594) (o := .cells #[.int .i64 a0_0, .int .i64 a0_1, .int .i64 a0_2, .string a0_3, .int .i64 a0_4, .int .i64 a0_5, .string a0_6] 50 (0, 0)) (by (with_reducible repeat (first | refine blk_drewN ?_ _ | refine blk_drew ?_ | refine blk_alloc ?_ _)); exact BK594.out) hb); have n1_ := Aside0.mk (below_step (by repeat (first | (with_reducible first | exact HB.out | apply below_alloc | apply pw_below_drewN | apply below_drew1 | refine below_set ?_ GE594.out) | exact HB.out)) hb); clear BK594; clear HB; have BK594 := n0_; have HB := n1_; clear n0_ n1_; (try clear hb); (try clear hb2); (try clear hk); (try clear hi); have hcz18_0 : w17.cell? ⟨gb594, 0, none⟩ = some (.int .i64 a0_0) := (blk_cell BK594.out 0).trans rfl; have hcz18_1 : w17.cell? ⟨gb594, 1, none⟩ = some (.int .i64 a0_1) := (blk_cell BK594.out 1).trans rfl; have hcz18_2 : w17.cell? ⟨gb594, 2, none⟩ = some (.int .i64 a0_2) := (blk_cell BK594.out 2).trans rfl; have hcz18_3 : w17.cell? ⟨gb594, 3, none⟩ = some (.string a0_3) := (blk_cell BK594.out 3).trans rfl; have hcz18_4 : w17.cell? ⟨gb594, 4, none⟩ = some (.int .i64 a0_4) := (blk_cell BK594.out 4).trans rfl; have hcz18_5 : w17.cell? ⟨gb594, 5, none⟩ = some (.int .i64 a0_5) := (blk_cell BK594.out 5).trans rfl; have hcz18_6 : w17.cell? ⟨gb594, 6, none⟩ = some (.string a0_6) := (blk_cell BK594.out 6).trans rfl; have hfz18_0 := blk_frozen BK594.out 0; have hfz18_1 := blk_frozen BK594.out 1; have hfz18_2 := blk_frozen BK594.out 2; have hfz18_3 := blk_frozen BK594.out 3; have hfz18_4 := blk_frozen BK594.out 4; have hfz18_5 := blk_frozen BK594.out 5; have hfz18_6 := blk_frozen BK594.out 6))
          go_ret
          exact ⟨by first | rfl | (simp [errW_none, errW_some] <;> rfl) | (simp [errW_none, errW_some, bne, show ∀ l_ : List UInt8, (l_ == []) = l_.isEmpty from fun l_ => by cases l_ <;> rfl]; done) | (simp [*, errW_none, errW_some] <;> rfl), by repeat (first | (with_reducible first | exact HB.out | apply below_alloc | apply pw_below_drewN | apply below_drew1 | refine below_set ?_ GE594.out) | exact HB.out)⟩
        · rw [if_neg c15] at H
          have c15b0 : decide (a0_0 < 1) = false := decide_eq_false c15
          clear c15
          by_cases c19 : a0_0 > 4
          · rw [if_pos c19] at H
            have c19b0 : decide (4 < a0_0) = true := decide_eq_true c19
            clear c19
            obtain rfl := Option.some.inj H
            have hcz20_0 : wc.cell? ⟨gb594, 0, none⟩ = some (.int .i64 a0_0) := (blk_cell BK594.out 0).trans rfl
            have hcz20_1 : wc.cell? ⟨gb594, 1, none⟩ = some (.int .i64 a0_1) := (blk_cell BK594.out 1).trans rfl
            have hcz20_2 : wc.cell? ⟨gb594, 2, none⟩ = some (.int .i64 a0_2) := (blk_cell BK594.out 2).trans rfl
            have hcz20_3 : wc.cell? ⟨gb594, 3, none⟩ = some (.string a0_3) := (blk_cell BK594.out 3).trans rfl
            have hcz20_4 : wc.cell? ⟨gb594, 4, none⟩ = some (.int .i64 a0_4) := (blk_cell BK594.out 4).trans rfl
            have hcz20_5 : wc.cell? ⟨gb594, 5, none⟩ = some (.int .i64 a0_5) := (blk_cell BK594.out 5).trans rfl
            have hcz20_6 : wc.cell? ⟨gb594, 6, none⟩ = some (.string a0_6) := (blk_cell BK594.out 6).trans rfl
            have hfz20_0 := blk_frozen BK594.out 0
            have hfz20_1 := blk_frozen BK594.out 1
            have hfz20_2 := blk_frozen BK594.out 2
            have hfz20_3 := blk_frozen BK594.out 3
            have hfz20_4 := blk_frozen BK594.out 4
            have hfz20_5 := blk_frozen BK594.out 5
            have hfz20_6 := blk_frozen BK594.out 6
            go_wp2_with (first | ((with_reducible refine gate_callee (f := 66) rfl ?_); refine goesL_ (some 15) rfl rfl Tryd.func66 (by kernel_rfl) rfl #[.agg #[.int .i64 a0_4, .int .i64 a0_5, .string a0_6]] rfl (by (try simp only [List.map_toArray, List.map_cons, List.map_nil]); first | done | rfl | (simp only [List.length_drop, List.length_take]; rfl)) ?_; (with_reducible refine (hearsayref02_Const.calls a0_4 a0_5 a0_6 true _ A13.out).mono ?_); rintro e w21 ⟨rfl, hb⟩; refine ⟨_, rfl, ?_⟩; have n0_ := Aside0.mk (blk_below (g := gb594) (o := .cells #[.int .i64 a0_0, .int .i64 a0_1, .int .i64 a0_2, .string a0_3, .int .i64 a0_4, .int .i64 a0_5, .string a0_6] 50 (0, 0)) (by (with_reducible repeat (first | refine blk_drewN ?_ _ | refine blk_drew ?_ | refine blk_alloc ?_ _)); exact BK594.out) hb); have n1_ := Aside0.mk (below_step (by repeat (first | (with_reducible first | exact HB.out | apply below_alloc | apply pw_below_drewN | apply below_drew1 | refine below_set ?_ GE594.out) | exact HB.out)) hb); clear BK594; clear HB; have BK594 := n0_; have HB := n1_; clear n0_ n1_; (try clear hb); (try clear hb2); (try clear hk); (try clear hi); have hcz22_0 : w21.cell? ⟨gb594, 0, none⟩ = some (.int .i64 a0_0) := (blk_cell BK594.out 0).trans rfl; have hcz22_1 : w21.cell? ⟨gb594, 1, none⟩ = some (.int .i64 a0_1) := (blk_cell BK594.out 1).trans rfl; have hcz22_2 : w21.cell? ⟨gb594, 2, none⟩ = some (.int .i64 a0_2) := (blk_cell BK594.out 2).trans rfl; have hcz22_3 : w21.cell? ⟨gb594, 3, none⟩ = some (.string a0_3) := (blk_cell BK594.out 3).trans rfl; have hcz22_4 : w21.cell? ⟨gb594, 4, none⟩ = some (.int .i64 a0_4) := (blk_cell BK594.out 4).trans rfl; have hcz22_5 : w21.cell? ⟨gb594, 5, none⟩ = some (.int .i64 a0_5) := (blk_cell BK594.out 5).trans rfl; have hcz22_6 : w21.cell? ⟨gb594, 6, none⟩ = some (.string a0_6) := (blk_cell BK594.out 6).trans rfl; have hfz22_0 := blk_frozen BK594.out 0; have hfz22_1 := blk_frozen BK594.out 1; have hfz22_2 := blk_frozen BK594.out 2; have hfz22_3 := blk_frozen BK594.out 3; have hfz22_4 := blk_frozen BK594.out 4; have hfz22_5 := blk_frozen BK594.out 5; have hfz22_6 := blk_frozen BK594.out 6))
            go_ret
            exact ⟨by first | rfl | (simp [errW_none, errW_some] <;> rfl) | (simp [errW_none, errW_some, bne, show ∀ l_ : List UInt8, (l_ == []) = l_.isEmpty from fun l_ => by cases l_ <;> rfl]; done) | (simp [*, errW_none, errW_some] <;> rfl), by repeat (first | (with_reducible first | exact HB.out | apply below_alloc | apply pw_below_drewN | apply below_drew1 | refine below_set ?_ GE594.out) | exact HB.out)⟩
          · rw [if_neg c19] at H
            have c19b0 : decide (4 < a0_0) = false := decide_eq_false c19
            clear c19
            by_cases c23 : x3_1 = true
            · subst c23
              have H1 : (some 0) = some r := by rw [if_pos rfl] at H; exact H
              clear H
              have H := H1
              clear H1
              obtain rfl := Option.some.inj H
              have hcz24_0 : wc.cell? ⟨gb594, 0, none⟩ = some (.int .i64 a0_0) := (blk_cell BK594.out 0).trans rfl
              have hcz24_1 : wc.cell? ⟨gb594, 1, none⟩ = some (.int .i64 a0_1) := (blk_cell BK594.out 1).trans rfl
              have hcz24_2 : wc.cell? ⟨gb594, 2, none⟩ = some (.int .i64 a0_2) := (blk_cell BK594.out 2).trans rfl
              have hcz24_3 : wc.cell? ⟨gb594, 3, none⟩ = some (.string a0_3) := (blk_cell BK594.out 3).trans rfl
              have hcz24_4 : wc.cell? ⟨gb594, 4, none⟩ = some (.int .i64 a0_4) := (blk_cell BK594.out 4).trans rfl
              have hcz24_5 : wc.cell? ⟨gb594, 5, none⟩ = some (.int .i64 a0_5) := (blk_cell BK594.out 5).trans rfl
              have hcz24_6 : wc.cell? ⟨gb594, 6, none⟩ = some (.string a0_6) := (blk_cell BK594.out 6).trans rfl
              have hfz24_0 := blk_frozen BK594.out 0
              have hfz24_1 := blk_frozen BK594.out 1
              have hfz24_2 := blk_frozen BK594.out 2
              have hfz24_3 := blk_frozen BK594.out 3
              have hfz24_4 := blk_frozen BK594.out 4
              have hfz24_5 := blk_frozen BK594.out 5
              have hfz24_6 := blk_frozen BK594.out 6
              go_wp2_with (first | ((with_reducible refine gate_callee (f := 66) rfl ?_); refine goesL_ (some 15) rfl rfl Tryd.func66 (by kernel_rfl) rfl #[.agg #[.int .i64 a0_4, .int .i64 a0_5, .string a0_6]] rfl (by (try simp only [List.map_toArray, List.map_cons, List.map_nil]); first | done | rfl | (simp only [List.length_drop, List.length_take]; rfl)) ?_; (with_reducible refine (hearsayref02_Const.calls a0_4 a0_5 a0_6 true _ A13.out).mono ?_); rintro e w25 ⟨rfl, hb⟩; refine ⟨_, rfl, ?_⟩; have n0_ := Aside0.mk (blk_below (g := gb594) (o := .cells #[.int .i64 a0_0, .int .i64 a0_1, .int .i64 a0_2, .string a0_3, .int .i64 a0_4, .int .i64 a0_5, .string a0_6] 50 (0, 0)) (by (with_reducible repeat (first | refine blk_drewN ?_ _ | refine blk_drew ?_ | refine blk_alloc ?_ _)); exact BK594.out) hb); have n1_ := Aside0.mk (below_step (by repeat (first | (with_reducible first | exact HB.out | apply below_alloc | apply pw_below_drewN | apply below_drew1 | refine below_set ?_ GE594.out) | exact HB.out)) hb); clear BK594; clear HB; have BK594 := n0_; have HB := n1_; clear n0_ n1_; (try clear hb); (try clear hb2); (try clear hk); (try clear hi); have hcz26_0 : w25.cell? ⟨gb594, 0, none⟩ = some (.int .i64 a0_0) := (blk_cell BK594.out 0).trans rfl; have hcz26_1 : w25.cell? ⟨gb594, 1, none⟩ = some (.int .i64 a0_1) := (blk_cell BK594.out 1).trans rfl; have hcz26_2 : w25.cell? ⟨gb594, 2, none⟩ = some (.int .i64 a0_2) := (blk_cell BK594.out 2).trans rfl; have hcz26_3 : w25.cell? ⟨gb594, 3, none⟩ = some (.string a0_3) := (blk_cell BK594.out 3).trans rfl; have hcz26_4 : w25.cell? ⟨gb594, 4, none⟩ = some (.int .i64 a0_4) := (blk_cell BK594.out 4).trans rfl; have hcz26_5 : w25.cell? ⟨gb594, 5, none⟩ = some (.int .i64 a0_5) := (blk_cell BK594.out 5).trans rfl; have hcz26_6 : w25.cell? ⟨gb594, 6, none⟩ = some (.string a0_6) := (blk_cell BK594.out 6).trans rfl; have hfz26_0 := blk_frozen BK594.out 0; have hfz26_1 := blk_frozen BK594.out 1; have hfz26_2 := blk_frozen BK594.out 2; have hfz26_3 := blk_frozen BK594.out 3; have hfz26_4 := blk_frozen BK594.out 4; have hfz26_5 := blk_frozen BK594.out 5; have hfz26_6 := blk_frozen BK594.out 6))
              go_ret
              exact ⟨by first | rfl | (simp [errW_none, errW_some] <;> rfl) | (simp [errW_none, errW_some, bne, show ∀ l_ : List UInt8, (l_ == []) = l_.isEmpty from fun l_ => by cases l_ <;> rfl]; done) | (simp [*, errW_none, errW_some] <;> rfl), by repeat (first | (with_reducible first | exact HB.out | apply below_alloc | apply pw_below_drewN | apply below_drew1 | refine below_set ?_ GE594.out) | exact HB.out)⟩
            · replace c23 := Bool.eq_false_iff.mpr c23
              subst c23
              have H1 : (some 32) = some r := by rw [if_neg (show ¬ (false = true) by decide)] at H; exact H
              clear H
              have H := H1
              clear H1
              obtain rfl := Option.some.inj H
              have hcz27_0 : wc.cell? ⟨gb594, 0, none⟩ = some (.int .i64 a0_0) := (blk_cell BK594.out 0).trans rfl
              have hcz27_1 : wc.cell? ⟨gb594, 1, none⟩ = some (.int .i64 a0_1) := (blk_cell BK594.out 1).trans rfl
              have hcz27_2 : wc.cell? ⟨gb594, 2, none⟩ = some (.int .i64 a0_2) := (blk_cell BK594.out 2).trans rfl
              have hcz27_3 : wc.cell? ⟨gb594, 3, none⟩ = some (.string a0_3) := (blk_cell BK594.out 3).trans rfl
              have hcz27_4 : wc.cell? ⟨gb594, 4, none⟩ = some (.int .i64 a0_4) := (blk_cell BK594.out 4).trans rfl
              have hcz27_5 : wc.cell? ⟨gb594, 5, none⟩ = some (.int .i64 a0_5) := (blk_cell BK594.out 5).trans rfl
              have hcz27_6 : wc.cell? ⟨gb594, 6, none⟩ = some (.string a0_6) := (blk_cell BK594.out 6).trans rfl
              have hfz27_0 := blk_frozen BK594.out 0
              have hfz27_1 := blk_frozen BK594.out 1
              have hfz27_2 := blk_frozen BK594.out 2
              have hfz27_3 := blk_frozen BK594.out 3
              have hfz27_4 := blk_frozen BK594.out 4
              have hfz27_5 := blk_frozen BK594.out 5
              have hfz27_6 := blk_frozen BK594.out 6
              go_wp2_with (first | ((with_reducible refine gate_callee (f := 66) rfl ?_); refine goesL_ (some 15) rfl rfl Tryd.func66 (by kernel_rfl) rfl #[.agg #[.int .i64 a0_4, .int .i64 a0_5, .string a0_6]] rfl (by (try simp only [List.map_toArray, List.map_cons, List.map_nil]); first | done | rfl | (simp only [List.length_drop, List.length_take]; rfl)) ?_; (with_reducible refine (hearsayref02_Const.calls a0_4 a0_5 a0_6 true _ A13.out).mono ?_); rintro e w28 ⟨rfl, hb⟩; refine ⟨_, rfl, ?_⟩; have n0_ := Aside0.mk (blk_below (g := gb594) (o := .cells #[.int .i64 a0_0, .int .i64 a0_1, .int .i64 a0_2, .string a0_3, .int .i64 a0_4, .int .i64 a0_5, .string a0_6] 50 (0, 0)) (by (with_reducible repeat (first | refine blk_drewN ?_ _ | refine blk_drew ?_ | refine blk_alloc ?_ _)); exact BK594.out) hb); have n1_ := Aside0.mk (below_step (by repeat (first | (with_reducible first | exact HB.out | apply below_alloc | apply pw_below_drewN | apply below_drew1 | refine below_set ?_ GE594.out) | exact HB.out)) hb); clear BK594; clear HB; have BK594 := n0_; have HB := n1_; clear n0_ n1_; (try clear hb); (try clear hb2); (try clear hk); (try clear hi); have hcz29_0 : w28.cell? ⟨gb594, 0, none⟩ = some (.int .i64 a0_0) := (blk_cell BK594.out 0).trans rfl; have hcz29_1 : w28.cell? ⟨gb594, 1, none⟩ = some (.int .i64 a0_1) := (blk_cell BK594.out 1).trans rfl; have hcz29_2 : w28.cell? ⟨gb594, 2, none⟩ = some (.int .i64 a0_2) := (blk_cell BK594.out 2).trans rfl; have hcz29_3 : w28.cell? ⟨gb594, 3, none⟩ = some (.string a0_3) := (blk_cell BK594.out 3).trans rfl; have hcz29_4 : w28.cell? ⟨gb594, 4, none⟩ = some (.int .i64 a0_4) := (blk_cell BK594.out 4).trans rfl; have hcz29_5 : w28.cell? ⟨gb594, 5, none⟩ = some (.int .i64 a0_5) := (blk_cell BK594.out 5).trans rfl; have hcz29_6 : w28.cell? ⟨gb594, 6, none⟩ = some (.string a0_6) := (blk_cell BK594.out 6).trans rfl; have hfz29_0 := blk_frozen BK594.out 0; have hfz29_1 := blk_frozen BK594.out 1; have hfz29_2 := blk_frozen BK594.out 2; have hfz29_3 := blk_frozen BK594.out 3; have hfz29_4 := blk_frozen BK594.out 4; have hfz29_5 := blk_frozen BK594.out 5; have hfz29_6 := blk_frozen BK594.out 6))
              go_ret
              exact ⟨by first | rfl | (simp [errW_none, errW_some] <;> rfl) | (simp [errW_none, errW_some, bne, show ∀ l_ : List UInt8, (l_ == []) = l_.isEmpty from fun l_ => by cases l_ <;> rfl]; done) | (simp [*, errW_none, errW_some] <;> rfl), by repeat (first | (with_reducible first | exact HB.out | apply below_alloc | apply pw_below_drewN | apply below_drew1 | refine below_set ?_ GE594.out) | exact HB.out)⟩
      · replace c14 := Bool.eq_false_iff.mpr c14
        subst c14
        have H1 : ((hearsayref02_Variable.f a0_4 a0_5 a0_6).bind fun t598 => (if a0_0 < 1 then (some 32) else (if a0_0 > 4 then (some 32) else (if x3_1 = true then (if t598 = true then (some 0) else (some 32)) else (some 32))))) = some r := by rw [if_neg (show ¬ (false = true) by decide)] at H; exact H
        clear H
        have H := H1
        clear H1
        replace H := Option.bind_eq_some_iff.mp H
        obtain ⟨t598, A300, H⟩ := H
        replace H : (if a0_0 < 1 then (some 32) else (if a0_0 > 4 then (some 32) else (if x3_1 = true then (if t598 = true then (some 0) else (some 32)) else (some 32)))) = some r := H
        have A30 := Aside0.mk A300
        clear A300
        by_cases c31 : a0_0 < 1
        · rw [if_pos c31] at H
          have c31b0 : decide (a0_0 < 1) = true := decide_eq_true c31
          clear c31
          obtain rfl := Option.some.inj H
          have hcz32_0 : wc.cell? ⟨gb594, 0, none⟩ = some (.int .i64 a0_0) := (blk_cell BK594.out 0).trans rfl
          have hcz32_1 : wc.cell? ⟨gb594, 1, none⟩ = some (.int .i64 a0_1) := (blk_cell BK594.out 1).trans rfl
          have hcz32_2 : wc.cell? ⟨gb594, 2, none⟩ = some (.int .i64 a0_2) := (blk_cell BK594.out 2).trans rfl
          have hcz32_3 : wc.cell? ⟨gb594, 3, none⟩ = some (.string a0_3) := (blk_cell BK594.out 3).trans rfl
          have hcz32_4 : wc.cell? ⟨gb594, 4, none⟩ = some (.int .i64 a0_4) := (blk_cell BK594.out 4).trans rfl
          have hcz32_5 : wc.cell? ⟨gb594, 5, none⟩ = some (.int .i64 a0_5) := (blk_cell BK594.out 5).trans rfl
          have hcz32_6 : wc.cell? ⟨gb594, 6, none⟩ = some (.string a0_6) := (blk_cell BK594.out 6).trans rfl
          have hfz32_0 := blk_frozen BK594.out 0
          have hfz32_1 := blk_frozen BK594.out 1
          have hfz32_2 := blk_frozen BK594.out 2
          have hfz32_3 := blk_frozen BK594.out 3
          have hfz32_4 := blk_frozen BK594.out 4
          have hfz32_5 := blk_frozen BK594.out 5
          have hfz32_6 := blk_frozen BK594.out 6
          go_wp2_with (first | ((with_reducible refine gate_callee (f := 66) rfl ?_); refine goesL_ (some 15) rfl rfl Tryd.func66 (by kernel_rfl) rfl #[.agg #[.int .i64 a0_4, .int .i64 a0_5, .string a0_6]] rfl (by (try simp only [List.map_toArray, List.map_cons, List.map_nil]); first | done | rfl | (simp only [List.length_drop, List.length_take]; rfl)) ?_; (with_reducible refine (hearsayref02_Const.calls a0_4 a0_5 a0_6 false _ A13.out).mono ?_); rintro e w33 ⟨rfl, hb⟩; refine ⟨_, rfl, ?_⟩; have n0_ := Aside0.mk (blk_below (g := gb594) (o := .cells #[.int .i64 a0_0, .int .i64 a0_1, .int .i64 a0_2, .string a0_3, .int .i64 a0_4, .int .i64 a0_5, .string a0_6] 50 (0, 0)) (by (with_reducible repeat (first | refine blk_drewN ?_ _ | refine blk_drew ?_ | refine blk_alloc ?_ _)); exact BK594.out) hb); have n1_ := Aside0.mk (below_step (by repeat (first | (with_reducible first | exact HB.out | apply below_alloc | apply pw_below_drewN | apply below_drew1 | refine below_set ?_ GE594.out) | exact HB.out)) hb); clear BK594; clear HB; have BK594 := n0_; have HB := n1_; clear n0_ n1_; (try clear hb); (try clear hb2); (try clear hk); (try clear hi); have hcz34_0 : w33.cell? ⟨gb594, 0, none⟩ = some (.int .i64 a0_0) := (blk_cell BK594.out 0).trans rfl; have hcz34_1 : w33.cell? ⟨gb594, 1, none⟩ = some (.int .i64 a0_1) := (blk_cell BK594.out 1).trans rfl; have hcz34_2 : w33.cell? ⟨gb594, 2, none⟩ = some (.int .i64 a0_2) := (blk_cell BK594.out 2).trans rfl; have hcz34_3 : w33.cell? ⟨gb594, 3, none⟩ = some (.string a0_3) := (blk_cell BK594.out 3).trans rfl; have hcz34_4 : w33.cell? ⟨gb594, 4, none⟩ = some (.int .i64 a0_4) := (blk_cell BK594.out 4).trans rfl; have hcz34_5 : w33.cell? ⟨gb594, 5, none⟩ = some (.int .i64 a0_5) := (blk_cell BK594.out 5).trans rfl; have hcz34_6 : w33.cell? ⟨gb594, 6, none⟩ = some (.string a0_6) := (blk_cell BK594.out 6).trans rfl; have hfz34_0 := blk_frozen BK594.out 0; have hfz34_1 := blk_frozen BK594.out 1; have hfz34_2 := blk_frozen BK594.out 2; have hfz34_3 := blk_frozen BK594.out 3; have hfz34_4 := blk_frozen BK594.out 4; have hfz34_5 := blk_frozen BK594.out 5; have hfz34_6 := blk_frozen BK594.out 6) | (go_at_call 52; (with_reducible refine (hearsayref02_Variable.calls a0_4 a0_5 a0_6 t598 _ A30.out).mono ?_); rintro e w35 ⟨rfl, hb⟩; have n0_ := Aside0.mk (blk_below (g := gb594) (o := .cells #[.int .i64 a0_0, .int .i64 a0_1, .int .i64 a0_2, .string a0_3, .int .i64 a0_4, .int .i64 a0_5, .string a0_6] 50 (0, 0)) (by (with_reducible repeat (first | refine blk_drewN ?_ _ | refine blk_drew ?_ | refine blk_alloc ?_ _)); exact BK594.out) hb); have n1_ := Aside0.mk (below_step (by repeat (first | (with_reducible first | exact HB.out | apply below_alloc | apply pw_below_drewN | apply below_drew1 | refine below_set ?_ GE594.out) | exact HB.out)) hb); clear BK594; clear HB; have BK594 := n0_; have HB := n1_; clear n0_ n1_; (try clear hb); (try clear hb2); (try clear hk); (try clear hi); have hcz36_0 : w35.cell? ⟨gb594, 0, none⟩ = some (.int .i64 a0_0) := (blk_cell BK594.out 0).trans rfl; have hcz36_1 : w35.cell? ⟨gb594, 1, none⟩ = some (.int .i64 a0_1) := (blk_cell BK594.out 1).trans rfl; have hcz36_2 : w35.cell? ⟨gb594, 2, none⟩ = some (.int .i64 a0_2) := (blk_cell BK594.out 2).trans rfl; have hcz36_3 : w35.cell? ⟨gb594, 3, none⟩ = some (.string a0_3) := (blk_cell BK594.out 3).trans rfl; have hcz36_4 : w35.cell? ⟨gb594, 4, none⟩ = some (.int .i64 a0_4) := (blk_cell BK594.out 4).trans rfl; have hcz36_5 : w35.cell? ⟨gb594, 5, none⟩ = some (.int .i64 a0_5) := (blk_cell BK594.out 5).trans rfl; have hcz36_6 : w35.cell? ⟨gb594, 6, none⟩ = some (.string a0_6) := (blk_cell BK594.out 6).trans rfl; have hfz36_0 := blk_frozen BK594.out 0; have hfz36_1 := blk_frozen BK594.out 1; have hfz36_2 := blk_frozen BK594.out 2; have hfz36_3 := blk_frozen BK594.out 3; have hfz36_4 := blk_frozen BK594.out 4; have hfz36_5 := blk_frozen BK594.out 5; have hfz36_6 := blk_frozen BK594.out 6))
          go_ret
          exact ⟨by first | rfl | (simp [errW_none, errW_some] <;> rfl) | (simp [errW_none, errW_some, bne, show ∀ l_ : List UInt8, (l_ == []) = l_.isEmpty from fun l_ => by cases l_ <;> rfl]; done) | (simp [*, errW_none, errW_some] <;> rfl), by repeat (first | (with_reducible first | exact HB.out | apply below_alloc | apply pw_below_drewN | apply below_drew1 | refine below_set ?_ GE594.out) | exact HB.out)⟩
        · rw [if_neg c31] at H
          have c31b0 : decide (a0_0 < 1) = false := decide_eq_false c31
          clear c31
          by_cases c37 : a0_0 > 4
          · rw [if_pos c37] at H
            have c37b0 : decide (4 < a0_0) = true := decide_eq_true c37
            clear c37
            obtain rfl := Option.some.inj H
            have hcz38_0 : wc.cell? ⟨gb594, 0, none⟩ = some (.int .i64 a0_0) := (blk_cell BK594.out 0).trans rfl
            have hcz38_1 : wc.cell? ⟨gb594, 1, none⟩ = some (.int .i64 a0_1) := (blk_cell BK594.out 1).trans rfl
            have hcz38_2 : wc.cell? ⟨gb594, 2, none⟩ = some (.int .i64 a0_2) := (blk_cell BK594.out 2).trans rfl
            have hcz38_3 : wc.cell? ⟨gb594, 3, none⟩ = some (.string a0_3) := (blk_cell BK594.out 3).trans rfl
            have hcz38_4 : wc.cell? ⟨gb594, 4, none⟩ = some (.int .i64 a0_4) := (blk_cell BK594.out 4).trans rfl
            have hcz38_5 : wc.cell? ⟨gb594, 5, none⟩ = some (.int .i64 a0_5) := (blk_cell BK594.out 5).trans rfl
            have hcz38_6 : wc.cell? ⟨gb594, 6, none⟩ = some (.string a0_6) := (blk_cell BK594.out 6).trans rfl
            have hfz38_0 := blk_frozen BK594.out 0
            have hfz38_1 := blk_frozen BK594.out 1
            have hfz38_2 := blk_frozen BK594.out 2
            have hfz38_3 := blk_frozen BK594.out 3
            have hfz38_4 := blk_frozen BK594.out 4
            have hfz38_5 := blk_frozen BK594.out 5
            have hfz38_6 := blk_frozen BK594.out 6
            go_wp2_with (first | ((with_reducible refine gate_callee (f := 66) rfl ?_); refine goesL_ (some 15) rfl rfl Tryd.func66 (by kernel_rfl) rfl #[.agg #[.int .i64 a0_4, .int .i64 a0_5, .string a0_6]] rfl (by (try simp only [List.map_toArray, List.map_cons, List.map_nil]); first | done | rfl | (simp only [List.length_drop, List.length_take]; rfl)) ?_; (with_reducible refine (hearsayref02_Const.calls a0_4 a0_5 a0_6 false _ A13.out).mono ?_); rintro e w39 ⟨rfl, hb⟩; refine ⟨_, rfl, ?_⟩; have n0_ := Aside0.mk (blk_below (g := gb594) (o := .cells #[.int .i64 a0_0, .int .i64 a0_1, .int .i64 a0_2, .string a0_3, .int .i64 a0_4, .int .i64 a0_5, .string a0_6] 50 (0, 0)) (by (with_reducible repeat (first | refine blk_drewN ?_ _ | refine blk_drew ?_ | refine blk_alloc ?_ _)); exact BK594.out) hb); have n1_ := Aside0.mk (below_step (by repeat (first | (with_reducible first | exact HB.out | apply below_alloc | apply pw_below_drewN | apply below_drew1 | refine below_set ?_ GE594.out) | exact HB.out)) hb); clear BK594; clear HB; have BK594 := n0_; have HB := n1_; clear n0_ n1_; (try clear hb); (try clear hb2); (try clear hk); (try clear hi); have hcz40_0 : w39.cell? ⟨gb594, 0, none⟩ = some (.int .i64 a0_0) := (blk_cell BK594.out 0).trans rfl; have hcz40_1 : w39.cell? ⟨gb594, 1, none⟩ = some (.int .i64 a0_1) := (blk_cell BK594.out 1).trans rfl; have hcz40_2 : w39.cell? ⟨gb594, 2, none⟩ = some (.int .i64 a0_2) := (blk_cell BK594.out 2).trans rfl; have hcz40_3 : w39.cell? ⟨gb594, 3, none⟩ = some (.string a0_3) := (blk_cell BK594.out 3).trans rfl; have hcz40_4 : w39.cell? ⟨gb594, 4, none⟩ = some (.int .i64 a0_4) := (blk_cell BK594.out 4).trans rfl; have hcz40_5 : w39.cell? ⟨gb594, 5, none⟩ = some (.int .i64 a0_5) := (blk_cell BK594.out 5).trans rfl; have hcz40_6 : w39.cell? ⟨gb594, 6, none⟩ = some (.string a0_6) := (blk_cell BK594.out 6).trans rfl; have hfz40_0 := blk_frozen BK594.out 0; have hfz40_1 := blk_frozen BK594.out 1; have hfz40_2 := blk_frozen BK594.out 2; have hfz40_3 := blk_frozen BK594.out 3; have hfz40_4 := blk_frozen BK594.out 4; have hfz40_5 := blk_frozen BK594.out 5; have hfz40_6 := blk_frozen BK594.out 6) | (go_at_call 52; (with_reducible refine (hearsayref02_Variable.calls a0_4 a0_5 a0_6 t598 _ A30.out).mono ?_); rintro e w41 ⟨rfl, hb⟩; have n0_ := Aside0.mk (blk_below (g := gb594) (o := .cells #[.int .i64 a0_0, .int .i64 a0_1, .int .i64 a0_2, .string a0_3, .int .i64 a0_4, .int .i64 a0_5, .string a0_6] 50 (0, 0)) (by (with_reducible repeat (first | refine blk_drewN ?_ _ | refine blk_drew ?_ | refine blk_alloc ?_ _)); exact BK594.out) hb); have n1_ := Aside0.mk (below_step (by repeat (first | (with_reducible first | exact HB.out | apply below_alloc | apply pw_below_drewN | apply below_drew1 | refine below_set ?_ GE594.out) | exact HB.out)) hb); clear BK594; clear HB; have BK594 := n0_; have HB := n1_; clear n0_ n1_; (try clear hb); (try clear hb2); (try clear hk); (try clear hi); have hcz42_0 : w41.cell? ⟨gb594, 0, none⟩ = some (.int .i64 a0_0) := (blk_cell BK594.out 0).trans rfl; have hcz42_1 : w41.cell? ⟨gb594, 1, none⟩ = some (.int .i64 a0_1) := (blk_cell BK594.out 1).trans rfl; have hcz42_2 : w41.cell? ⟨gb594, 2, none⟩ = some (.int .i64 a0_2) := (blk_cell BK594.out 2).trans rfl; have hcz42_3 : w41.cell? ⟨gb594, 3, none⟩ = some (.string a0_3) := (blk_cell BK594.out 3).trans rfl; have hcz42_4 : w41.cell? ⟨gb594, 4, none⟩ = some (.int .i64 a0_4) := (blk_cell BK594.out 4).trans rfl; have hcz42_5 : w41.cell? ⟨gb594, 5, none⟩ = some (.int .i64 a0_5) := (blk_cell BK594.out 5).trans rfl; have hcz42_6 : w41.cell? ⟨gb594, 6, none⟩ = some (.string a0_6) := (blk_cell BK594.out 6).trans rfl; have hfz42_0 := blk_frozen BK594.out 0; have hfz42_1 := blk_frozen BK594.out 1; have hfz42_2 := blk_frozen BK594.out 2; have hfz42_3 := blk_frozen BK594.out 3; have hfz42_4 := blk_frozen BK594.out 4; have hfz42_5 := blk_frozen BK594.out 5; have hfz42_6 := blk_frozen BK594.out 6))
            go_ret
            exact ⟨by first | rfl | (simp [errW_none, errW_some] <;> rfl) | (simp [errW_none, errW_some, bne, show ∀ l_ : List UInt8, (l_ == []) = l_.isEmpty from fun l_ => by cases l_ <;> rfl]; done) | (simp [*, errW_none, errW_some] <;> rfl), by repeat (first | (with_reducible first | exact HB.out | apply below_alloc | apply pw_below_drewN | apply below_drew1 | refine below_set ?_ GE594.out) | exact HB.out)⟩
          · rw [if_neg c37] at H
            have c37b0 : decide (4 < a0_0) = false := decide_eq_false c37
            clear c37
            by_cases c43 : x3_1 = true
            · subst c43
              have H1 : (if t598 = true then (some 0) else (some 32)) = some r := by rw [if_pos rfl] at H; exact H
              clear H
              have H := H1
              clear H1
              by_cases c44 : t598 = true
              · subst c44
                have H1 : (some 0) = some r := by rw [if_pos rfl] at H; exact H
                clear H
                have H := H1
                clear H1
                obtain rfl := Option.some.inj H
                have hcz45_0 : wc.cell? ⟨gb594, 0, none⟩ = some (.int .i64 a0_0) := (blk_cell BK594.out 0).trans rfl
                have hcz45_1 : wc.cell? ⟨gb594, 1, none⟩ = some (.int .i64 a0_1) := (blk_cell BK594.out 1).trans rfl
                have hcz45_2 : wc.cell? ⟨gb594, 2, none⟩ = some (.int .i64 a0_2) := (blk_cell BK594.out 2).trans rfl
                have hcz45_3 : wc.cell? ⟨gb594, 3, none⟩ = some (.string a0_3) := (blk_cell BK594.out 3).trans rfl
                have hcz45_4 : wc.cell? ⟨gb594, 4, none⟩ = some (.int .i64 a0_4) := (blk_cell BK594.out 4).trans rfl
                have hcz45_5 : wc.cell? ⟨gb594, 5, none⟩ = some (.int .i64 a0_5) := (blk_cell BK594.out 5).trans rfl
                have hcz45_6 : wc.cell? ⟨gb594, 6, none⟩ = some (.string a0_6) := (blk_cell BK594.out 6).trans rfl
                have hfz45_0 := blk_frozen BK594.out 0
                have hfz45_1 := blk_frozen BK594.out 1
                have hfz45_2 := blk_frozen BK594.out 2
                have hfz45_3 := blk_frozen BK594.out 3
                have hfz45_4 := blk_frozen BK594.out 4
                have hfz45_5 := blk_frozen BK594.out 5
                have hfz45_6 := blk_frozen BK594.out 6
                go_wp2_with (first | ((with_reducible refine gate_callee (f := 66) rfl ?_); refine goesL_ (some 15) rfl rfl Tryd.func66 (by kernel_rfl) rfl #[.agg #[.int .i64 a0_4, .int .i64 a0_5, .string a0_6]] rfl (by (try simp only [List.map_toArray, List.map_cons, List.map_nil]); first | done | rfl | (simp only [List.length_drop, List.length_take]; rfl)) ?_; (with_reducible refine (hearsayref02_Const.calls a0_4 a0_5 a0_6 false _ A13.out).mono ?_); rintro e w46 ⟨rfl, hb⟩; refine ⟨_, rfl, ?_⟩; have n0_ := Aside0.mk (blk_below (g := gb594) (o := .cells #[.int .i64 a0_0, .int .i64 a0_1, .int .i64 a0_2, .string a0_3, .int .i64 a0_4, .int .i64 a0_5, .string a0_6] 50 (0, 0)) (by (with_reducible repeat (first | refine blk_drewN ?_ _ | refine blk_drew ?_ | refine blk_alloc ?_ _)); exact BK594.out) hb); have n1_ := Aside0.mk (below_step (by repeat (first | (with_reducible first | exact HB.out | apply below_alloc | apply pw_below_drewN | apply below_drew1 | refine below_set ?_ GE594.out) | exact HB.out)) hb); clear BK594; clear HB; have BK594 := n0_; have HB := n1_; clear n0_ n1_; (try clear hb); (try clear hb2); (try clear hk); (try clear hi); have hcz47_0 : w46.cell? ⟨gb594, 0, none⟩ = some (.int .i64 a0_0) := (blk_cell BK594.out 0).trans rfl; have hcz47_1 : w46.cell? ⟨gb594, 1, none⟩ = some (.int .i64 a0_1) := (blk_cell BK594.out 1).trans rfl; have hcz47_2 : w46.cell? ⟨gb594, 2, none⟩ = some (.int .i64 a0_2) := (blk_cell BK594.out 2).trans rfl; have hcz47_3 : w46.cell? ⟨gb594, 3, none⟩ = some (.string a0_3) := (blk_cell BK594.out 3).trans rfl; have hcz47_4 : w46.cell? ⟨gb594, 4, none⟩ = some (.int .i64 a0_4) := (blk_cell BK594.out 4).trans rfl; have hcz47_5 : w46.cell? ⟨gb594, 5, none⟩ = some (.int .i64 a0_5) := (blk_cell BK594.out 5).trans rfl; have hcz47_6 : w46.cell? ⟨gb594, 6, none⟩ = some (.string a0_6) := (blk_cell BK594.out 6).trans rfl; have hfz47_0 := blk_frozen BK594.out 0; have hfz47_1 := blk_frozen BK594.out 1; have hfz47_2 := blk_frozen BK594.out 2; have hfz47_3 := blk_frozen BK594.out 3; have hfz47_4 := blk_frozen BK594.out 4; have hfz47_5 := blk_frozen BK594.out 5; have hfz47_6 := blk_frozen BK594.out 6) | (go_at_call 52; (with_reducible refine (hearsayref02_Variable.calls a0_4 a0_5 a0_6 true _ A30.out).mono ?_); rintro e w48 ⟨rfl, hb⟩; have n0_ := Aside0.mk (blk_below (g := gb594) (o := .cells #[.int .i64 a0_0, .int .i64 a0_1, .int .i64 a0_2, .string a0_3, .int .i64 a0_4, .int .i64 a0_5, .string a0_6] 50 (0, 0)) (by (with_reducible repeat (first | refine blk_drewN ?_ _ | refine blk_drew ?_ | refine blk_alloc ?_ _)); exact BK594.out) hb); have n1_ := Aside0.mk (below_step (by repeat (first | (with_reducible first | exact HB.out | apply below_alloc | apply pw_below_drewN | apply below_drew1 | refine below_set ?_ GE594.out) | exact HB.out)) hb); clear BK594; clear HB; have BK594 := n0_; have HB := n1_; clear n0_ n1_; (try clear hb); (try clear hb2); (try clear hk); (try clear hi); have hcz49_0 : w48.cell? ⟨gb594, 0, none⟩ = some (.int .i64 a0_0) := (blk_cell BK594.out 0).trans rfl; have hcz49_1 : w48.cell? ⟨gb594, 1, none⟩ = some (.int .i64 a0_1) := (blk_cell BK594.out 1).trans rfl; have hcz49_2 : w48.cell? ⟨gb594, 2, none⟩ = some (.int .i64 a0_2) := (blk_cell BK594.out 2).trans rfl; have hcz49_3 : w48.cell? ⟨gb594, 3, none⟩ = some (.string a0_3) := (blk_cell BK594.out 3).trans rfl; have hcz49_4 : w48.cell? ⟨gb594, 4, none⟩ = some (.int .i64 a0_4) := (blk_cell BK594.out 4).trans rfl; have hcz49_5 : w48.cell? ⟨gb594, 5, none⟩ = some (.int .i64 a0_5) := (blk_cell BK594.out 5).trans rfl; have hcz49_6 : w48.cell? ⟨gb594, 6, none⟩ = some (.string a0_6) := (blk_cell BK594.out 6).trans rfl; have hfz49_0 := blk_frozen BK594.out 0; have hfz49_1 := blk_frozen BK594.out 1; have hfz49_2 := blk_frozen BK594.out 2; have hfz49_3 := blk_frozen BK594.out 3; have hfz49_4 := blk_frozen BK594.out 4; have hfz49_5 := blk_frozen BK594.out 5; have hfz49_6 := blk_frozen BK594.out 6))
                go_ret
                exact ⟨by first | rfl | (simp [errW_none, errW_some] <;> rfl) | (simp [errW_none, errW_some, bne, show ∀ l_ : List UInt8, (l_ == []) = l_.isEmpty from fun l_ => by cases l_ <;> rfl]; done) | (simp [*, errW_none, errW_some] <;> rfl), by repeat (first | (with_reducible first | exact HB.out | apply below_alloc | apply pw_below_drewN | apply below_drew1 | refine below_set ?_ GE594.out) | exact HB.out)⟩
              · replace c44 := Bool.eq_false_iff.mpr c44
                subst c44
                have H1 : (some 32) = some r := by rw [if_neg (show ¬ (false = true) by decide)] at H; exact H
                clear H
                have H := H1
                clear H1
                obtain rfl := Option.some.inj H
                have hcz50_0 : wc.cell? ⟨gb594, 0, none⟩ = some (.int .i64 a0_0) := (blk_cell BK594.out 0).trans rfl
                have hcz50_1 : wc.cell? ⟨gb594, 1, none⟩ = some (.int .i64 a0_1) := (blk_cell BK594.out 1).trans rfl
                have hcz50_2 : wc.cell? ⟨gb594, 2, none⟩ = some (.int .i64 a0_2) := (blk_cell BK594.out 2).trans rfl
                have hcz50_3 : wc.cell? ⟨gb594, 3, none⟩ = some (.string a0_3) := (blk_cell BK594.out 3).trans rfl
                have hcz50_4 : wc.cell? ⟨gb594, 4, none⟩ = some (.int .i64 a0_4) := (blk_cell BK594.out 4).trans rfl
                have hcz50_5 : wc.cell? ⟨gb594, 5, none⟩ = some (.int .i64 a0_5) := (blk_cell BK594.out 5).trans rfl
                have hcz50_6 : wc.cell? ⟨gb594, 6, none⟩ = some (.string a0_6) := (blk_cell BK594.out 6).trans rfl
                have hfz50_0 := blk_frozen BK594.out 0
                have hfz50_1 := blk_frozen BK594.out 1
                have hfz50_2 := blk_frozen BK594.out 2
                have hfz50_3 := blk_frozen BK594.out 3
                have hfz50_4 := blk_frozen BK594.out 4
                have hfz50_5 := blk_frozen BK594.out 5
                have hfz50_6 := blk_frozen BK594.out 6
                go_wp2_with (first | ((with_reducible refine gate_callee (f := 66) rfl ?_); refine goesL_ (some 15) rfl rfl Tryd.func66 (by kernel_rfl) rfl #[.agg #[.int .i64 a0_4, .int .i64 a0_5, .string a0_6]] rfl (by (try simp only [List.map_toArray, List.map_cons, List.map_nil]); first | done | rfl | (simp only [List.length_drop, List.length_take]; rfl)) ?_; (with_reducible refine (hearsayref02_Const.calls a0_4 a0_5 a0_6 false _ A13.out).mono ?_); rintro e w51 ⟨rfl, hb⟩; refine ⟨_, rfl, ?_⟩; have n0_ := Aside0.mk (blk_below (g := gb594) (o := .cells #[.int .i64 a0_0, .int .i64 a0_1, .int .i64 a0_2, .string a0_3, .int .i64 a0_4, .int .i64 a0_5, .string a0_6] 50 (0, 0)) (by (with_reducible repeat (first | refine blk_drewN ?_ _ | refine blk_drew ?_ | refine blk_alloc ?_ _)); exact BK594.out) hb); have n1_ := Aside0.mk (below_step (by repeat (first | (with_reducible first | exact HB.out | apply below_alloc | apply pw_below_drewN | apply below_drew1 | refine below_set ?_ GE594.out) | exact HB.out)) hb); clear BK594; clear HB; have BK594 := n0_; have HB := n1_; clear n0_ n1_; (try clear hb); (try clear hb2); (try clear hk); (try clear hi); have hcz52_0 : w51.cell? ⟨gb594, 0, none⟩ = some (.int .i64 a0_0) := (blk_cell BK594.out 0).trans rfl; have hcz52_1 : w51.cell? ⟨gb594, 1, none⟩ = some (.int .i64 a0_1) := (blk_cell BK594.out 1).trans rfl; have hcz52_2 : w51.cell? ⟨gb594, 2, none⟩ = some (.int .i64 a0_2) := (blk_cell BK594.out 2).trans rfl; have hcz52_3 : w51.cell? ⟨gb594, 3, none⟩ = some (.string a0_3) := (blk_cell BK594.out 3).trans rfl; have hcz52_4 : w51.cell? ⟨gb594, 4, none⟩ = some (.int .i64 a0_4) := (blk_cell BK594.out 4).trans rfl; have hcz52_5 : w51.cell? ⟨gb594, 5, none⟩ = some (.int .i64 a0_5) := (blk_cell BK594.out 5).trans rfl; have hcz52_6 : w51.cell? ⟨gb594, 6, none⟩ = some (.string a0_6) := (blk_cell BK594.out 6).trans rfl; have hfz52_0 := blk_frozen BK594.out 0; have hfz52_1 := blk_frozen BK594.out 1; have hfz52_2 := blk_frozen BK594.out 2; have hfz52_3 := blk_frozen BK594.out 3; have hfz52_4 := blk_frozen BK594.out 4; have hfz52_5 := blk_frozen BK594.out 5; have hfz52_6 := blk_frozen BK594.out 6) | (go_at_call 52; (with_reducible refine (hearsayref02_Variable.calls a0_4 a0_5 a0_6 false _ A30.out).mono ?_); rintro e w53 ⟨rfl, hb⟩; have n0_ := Aside0.mk (blk_below (g := gb594) (o := .cells #[.int .i64 a0_0, .int .i64 a0_1, .int .i64 a0_2, .string a0_3, .int .i64 a0_4, .int .i64 a0_5, .string a0_6] 50 (0, 0)) (by (with_reducible repeat (first | refine blk_drewN ?_ _ | refine blk_drew ?_ | refine blk_alloc ?_ _)); exact BK594.out) hb); have n1_ := Aside0.mk (below_step (by repeat (first | (with_reducible first | exact HB.out | apply below_alloc | apply pw_below_drewN | apply below_drew1 | refine below_set ?_ GE594.out) | exact HB.out)) hb); clear BK594; clear HB; have BK594 := n0_; have HB := n1_; clear n0_ n1_; (try clear hb); (try clear hb2); (try clear hk); (try clear hi); have hcz54_0 : w53.cell? ⟨gb594, 0, none⟩ = some (.int .i64 a0_0) := (blk_cell BK594.out 0).trans rfl; have hcz54_1 : w53.cell? ⟨gb594, 1, none⟩ = some (.int .i64 a0_1) := (blk_cell BK594.out 1).trans rfl; have hcz54_2 : w53.cell? ⟨gb594, 2, none⟩ = some (.int .i64 a0_2) := (blk_cell BK594.out 2).trans rfl; have hcz54_3 : w53.cell? ⟨gb594, 3, none⟩ = some (.string a0_3) := (blk_cell BK594.out 3).trans rfl; have hcz54_4 : w53.cell? ⟨gb594, 4, none⟩ = some (.int .i64 a0_4) := (blk_cell BK594.out 4).trans rfl; have hcz54_5 : w53.cell? ⟨gb594, 5, none⟩ = some (.int .i64 a0_5) := (blk_cell BK594.out 5).trans rfl; have hcz54_6 : w53.cell? ⟨gb594, 6, none⟩ = some (.string a0_6) := (blk_cell BK594.out 6).trans rfl; have hfz54_0 := blk_frozen BK594.out 0; have hfz54_1 := blk_frozen BK594.out 1; have hfz54_2 := blk_frozen BK594.out 2; have hfz54_3 := blk_frozen BK594.out 3; have hfz54_4 := blk_frozen BK594.out 4; have hfz54_5 := blk_frozen BK594.out 5; have hfz54_6 := blk_frozen BK594.out 6))
                go_ret
                exact ⟨by first | rfl | (simp [errW_none, errW_some] <;> rfl) | (simp [errW_none, errW_some, bne, show ∀ l_ : List UInt8, (l_ == []) = l_.isEmpty from fun l_ => by cases l_ <;> rfl]; done) | (simp [*, errW_none, errW_some] <;> rfl), by repeat (first | (with_reducible first | exact HB.out | apply below_alloc | apply pw_below_drewN | apply below_drew1 | refine below_set ?_ GE594.out) | exact HB.out)⟩
            · replace c43 := Bool.eq_false_iff.mpr c43
              subst c43
              have H1 : (some 32) = some r := by rw [if_neg (show ¬ (false = true) by decide)] at H; exact H
              clear H
              have H := H1
              clear H1
              obtain rfl := Option.some.inj H
              have hcz55_0 : wc.cell? ⟨gb594, 0, none⟩ = some (.int .i64 a0_0) := (blk_cell BK594.out 0).trans rfl
              have hcz55_1 : wc.cell? ⟨gb594, 1, none⟩ = some (.int .i64 a0_1) := (blk_cell BK594.out 1).trans rfl
              have hcz55_2 : wc.cell? ⟨gb594, 2, none⟩ = some (.int .i64 a0_2) := (blk_cell BK594.out 2).trans rfl
              have hcz55_3 : wc.cell? ⟨gb594, 3, none⟩ = some (.string a0_3) := (blk_cell BK594.out 3).trans rfl
              have hcz55_4 : wc.cell? ⟨gb594, 4, none⟩ = some (.int .i64 a0_4) := (blk_cell BK594.out 4).trans rfl
              have hcz55_5 : wc.cell? ⟨gb594, 5, none⟩ = some (.int .i64 a0_5) := (blk_cell BK594.out 5).trans rfl
              have hcz55_6 : wc.cell? ⟨gb594, 6, none⟩ = some (.string a0_6) := (blk_cell BK594.out 6).trans rfl
              have hfz55_0 := blk_frozen BK594.out 0
              have hfz55_1 := blk_frozen BK594.out 1
              have hfz55_2 := blk_frozen BK594.out 2
              have hfz55_3 := blk_frozen BK594.out 3
              have hfz55_4 := blk_frozen BK594.out 4
              have hfz55_5 := blk_frozen BK594.out 5
              have hfz55_6 := blk_frozen BK594.out 6
              go_wp2_with (first | ((with_reducible refine gate_callee (f := 66) rfl ?_); refine goesL_ (some 15) rfl rfl Tryd.func66 (by kernel_rfl) rfl #[.agg #[.int .i64 a0_4, .int .i64 a0_5, .string a0_6]] rfl (by (try simp only [List.map_toArray, List.map_cons, List.map_nil]); first | done | rfl | (simp only [List.length_drop, List.length_take]; rfl)) ?_; (with_reducible refine (hearsayref02_Const.calls a0_4 a0_5 a0_6 false _ A13.out).mono ?_); rintro e w56 ⟨rfl, hb⟩; refine ⟨_, rfl, ?_⟩; have n0_ := Aside0.mk (blk_below (g := gb594) (o := .cells #[.int .i64 a0_0, .int .i64 a0_1, .int .i64 a0_2, .string a0_3, .int .i64 a0_4, .int .i64 a0_5, .string a0_6] 50 (0, 0)) (by (with_reducible repeat (first | refine blk_drewN ?_ _ | refine blk_drew ?_ | refine blk_alloc ?_ _)); exact BK594.out) hb); have n1_ := Aside0.mk (below_step (by repeat (first | (with_reducible first | exact HB.out | apply below_alloc | apply pw_below_drewN | apply below_drew1 | refine below_set ?_ GE594.out) | exact HB.out)) hb); clear BK594; clear HB; have BK594 := n0_; have HB := n1_; clear n0_ n1_; (try clear hb); (try clear hb2); (try clear hk); (try clear hi); have hcz57_0 : w56.cell? ⟨gb594, 0, none⟩ = some (.int .i64 a0_0) := (blk_cell BK594.out 0).trans rfl; have hcz57_1 : w56.cell? ⟨gb594, 1, none⟩ = some (.int .i64 a0_1) := (blk_cell BK594.out 1).trans rfl; have hcz57_2 : w56.cell? ⟨gb594, 2, none⟩ = some (.int .i64 a0_2) := (blk_cell BK594.out 2).trans rfl; have hcz57_3 : w56.cell? ⟨gb594, 3, none⟩ = some (.string a0_3) := (blk_cell BK594.out 3).trans rfl; have hcz57_4 : w56.cell? ⟨gb594, 4, none⟩ = some (.int .i64 a0_4) := (blk_cell BK594.out 4).trans rfl; have hcz57_5 : w56.cell? ⟨gb594, 5, none⟩ = some (.int .i64 a0_5) := (blk_cell BK594.out 5).trans rfl; have hcz57_6 : w56.cell? ⟨gb594, 6, none⟩ = some (.string a0_6) := (blk_cell BK594.out 6).trans rfl; have hfz57_0 := blk_frozen BK594.out 0; have hfz57_1 := blk_frozen BK594.out 1; have hfz57_2 := blk_frozen BK594.out 2; have hfz57_3 := blk_frozen BK594.out 3; have hfz57_4 := blk_frozen BK594.out 4; have hfz57_5 := blk_frozen BK594.out 5; have hfz57_6 := blk_frozen BK594.out 6) | (go_at_call 52; (with_reducible refine (hearsayref02_Variable.calls a0_4 a0_5 a0_6 t598 _ A30.out).mono ?_); rintro e w58 ⟨rfl, hb⟩; have n0_ := Aside0.mk (blk_below (g := gb594) (o := .cells #[.int .i64 a0_0, .int .i64 a0_1, .int .i64 a0_2, .string a0_3, .int .i64 a0_4, .int .i64 a0_5, .string a0_6] 50 (0, 0)) (by (with_reducible repeat (first | refine blk_drewN ?_ _ | refine blk_drew ?_ | refine blk_alloc ?_ _)); exact BK594.out) hb); have n1_ := Aside0.mk (below_step (by repeat (first | (with_reducible first | exact HB.out | apply below_alloc | apply pw_below_drewN | apply below_drew1 | refine below_set ?_ GE594.out) | exact HB.out)) hb); clear BK594; clear HB; have BK594 := n0_; have HB := n1_; clear n0_ n1_; (try clear hb); (try clear hb2); (try clear hk); (try clear hi); have hcz59_0 : w58.cell? ⟨gb594, 0, none⟩ = some (.int .i64 a0_0) := (blk_cell BK594.out 0).trans rfl; have hcz59_1 : w58.cell? ⟨gb594, 1, none⟩ = some (.int .i64 a0_1) := (blk_cell BK594.out 1).trans rfl; have hcz59_2 : w58.cell? ⟨gb594, 2, none⟩ = some (.int .i64 a0_2) := (blk_cell BK594.out 2).trans rfl; have hcz59_3 : w58.cell? ⟨gb594, 3, none⟩ = some (.string a0_3) := (blk_cell BK594.out 3).trans rfl; have hcz59_4 : w58.cell? ⟨gb594, 4, none⟩ = some (.int .i64 a0_4) := (blk_cell BK594.out 4).trans rfl; have hcz59_5 : w58.cell? ⟨gb594, 5, none⟩ = some (.int .i64 a0_5) := (blk_cell BK594.out 5).trans rfl; have hcz59_6 : w58.cell? ⟨gb594, 6, none⟩ = some (.string a0_6) := (blk_cell BK594.out 6).trans rfl; have hfz59_0 := blk_frozen BK594.out 0; have hfz59_1 := blk_frozen BK594.out 1; have hfz59_2 := blk_frozen BK594.out 2; have hfz59_3 := blk_frozen BK594.out 3; have hfz59_4 := blk_frozen BK594.out 4; have hfz59_5 := blk_frozen BK594.out 5; have hfz59_6 := blk_frozen BK594.out 6))
              go_ret
              exact ⟨by first | rfl | (simp [errW_none, errW_some] <;> rfl) | (simp [errW_none, errW_some, bne, show ∀ l_ : List UInt8, (l_ == []) = l_.isEmpty from fun l_ => by cases l_ <;> rfl]; done) | (simp [*, errW_none, errW_some] <;> rfl), by repeat (first | (with_reducible first | exact HB.out | apply below_alloc | apply pw_below_drewN | apply below_drew1 | refine below_set ?_ GE594.out) | exact HB.out)⟩

/-! ### hearsayref02_ApplyTest: function 34 -/
def hearsayref02_ApplyTest.f (k : Nat) (l0 : List (S44)) (a1_0 : Int) (a1_1 : Int) (a1_2 : Int) (a1_3 : ByteArray) (a1_4 : Int) (a1_5 : Int) (a1_6 : ByteArray) : Option (Int × Int × Int × ByteArray × Int × Int × ByteArray) := (hearsayref02_Become.f k l0 a1_1 a1_2 a1_3).bind fun bt601 => ((hearsayref02_Become.f k l0 a1_4 a1_5 a1_6).bind fun bt604 => (some (a1_0, bt601.1, bt601.2.1, bt601.2.2, bt604.1, bt604.2.1, bt604.2.2)))
theorem hearsayref02_ApplyTest.mono : ∀ a0 a1 a2 a3 a4 a5 a6 a7 k, LeO (hearsayref02_ApplyTest.f k a0 a1 a2 a3 a4 a5 a6 a7) (hearsayref02_ApplyTest.f (k + 1) a0 a1 a2 a3 a4 a5 a6 a7) := by
  intro a0 a1 a2 a3 a4 a5 a6 a7 k
  unfold hearsayref02_ApplyTest.f
  repeat' first
      | (with_reducible exact hearsayref02_Become.mono _ _ _ _ _)
      | (with_reducible exact LeO.refl _)
      | (with_reducible exact LeO.none _)
      | (with_reducible refine LeO.ite ?_ ?_)
      | (with_reducible refine LeO.bind ?_ (fun _ => ?_))
      | exact hearsayref02_Become.mono _ _ _ _ _
      | exact LeO.none _
      | refine LeO.ite ?_ ?_
      | refine LeO.bind ?_ (fun _ => ?_)
def hearsayref02_ApplyTest.T1 : Bool × List (List Nat × List Nat) := (true, [([], []), ([0], [0]), ([], []), ([], []), ([3], [3]), ([2, 4], [2, 4]), ([], []), ([], []), ([7], [7]), ([6, 8, 5], [6, 8]), ([1, 5, 9], [1, 5, 9]), ([10, 9, 0, 1, 2, 3, 4, 5, 6, 7, 8, 9, 10], [10])])
def hearsayref02_ApplyTest.B1 : List Nat := [0, 1, 0, 0, 8, 28, 0, 0, 128, 508, 1023, 2047]
theorem hearsayref02_ApplyTest.tab1 : rtab .any (opsOf Tryd.f34 1) = hearsayref02_ApplyTest.T1 := by kernel_rfl
theorem hearsayref02_ApplyTest.bits1 : waitsOk hearsayref02_ApplyTest.T1.2 hearsayref02_ApplyTest.B1 = true := by kernel_rfl
set_option maxHeartbeats 8000000 in
set_option maxRecDepth 100000 in
theorem hearsayref02_ApplyTest.calls (k : Nat) (A0 : Option Addr) (c0 : Nat) (l0 : List (S44)) (a1_0 : Int) (a1_1 : Int) (a1_2 : Int) (a1_3 : ByteArray) (a1_4 : Int) (a1_5 : Int) (a1_6 : ByteArray) (r1 : Int) (r2 : Int) (r3 : Int) (r4 : ByteArray) (r5 : Int) (r6 : Int) (r7 : ByteArray) (w : World) (hr0 : Kd.C k44 w A0 l0.length l0) (hc0 : l0.length ≤ c0) (h : hearsayref02_ApplyTest.f k l0 a1_0 a1_1 a1_2 a1_3 a1_4 a1_5 a1_6 = some (r1, r2, r3, r4, r5, r6, r7)) :
    Calls Tryd.prog 34 #[.slice A0 l0.length c0, .agg #[.int .i64 a1_0, .int .i64 a1_1, .int .i64 a1_2, .string a1_3, .int .i64 a1_4, .int .i64 a1_5, .string a1_6]] w fun e w' => e = .returned (.agg #[.int .i64 r1, .int .i64 r2, .int .i64 r3, .string r4, .int .i64 r5, .int .i64 r6, .string r7]) ∧ Below w.heap.size w w' := by
  have hu50 := Tryd.underlying50
  have hu23 := Tryd.underlying23
  have HR0 := Aside0.mk hr0
  have HC0 := Aside0.mk hc0
  clear hr0 hc0
  have HB := Aside0.mk (Below.refl w.heap.size w)
  have H : ((hearsayref02_Become.f k l0 a1_1 a1_2 a1_3).bind fun bt601 => ((hearsayref02_Become.f k l0 a1_4 a1_5 a1_6).bind fun bt604 => (some (a1_0, bt601.1, bt601.2.1, bt601.2.2, bt604.1, bt604.2.1, bt604.2.2)))) = some (r1, r2, r3, r4, r5, r6, r7) := h
  clear h
  replace H := Option.bind_eq_some_iff.mp H
  obtain ⟨⟨t601, t602, t603⟩, A30, H⟩ := H
  replace H : ((hearsayref02_Become.f k l0 a1_4 a1_5 a1_6).bind fun bt604 => (some (a1_0, t601, t602, t603, bt604.1, bt604.2.1, bt604.2.2))) = some (r1, r2, r3, r4, r5, r6, r7) := H
  have A3 := Aside0.mk A30
  clear A30
  replace H := Option.bind_eq_some_iff.mp H
  obtain ⟨⟨t604, t605, t606⟩, A40, H⟩ := H
  replace H : (some (a1_0, t601, t602, t603, t604, t605, t606)) = some (r1, r2, r3, r4, r5, r6, r7) := H
  have A4 := Aside0.mk A40
  clear A40
  simp only [Option.some.injEq, Prod.mk.injEq] at H
  obtain ⟨rfl, rfl, rfl, rfl, rfl, rfl, rfl⟩ := H
  go_enter Tryd.func34, Tryd.ntmps34
  try go_wp2_with (first | ((with_reducible refine gate_dst (N := 3) rfl ?_); refine box_event ?hg (N := 3) ?hd (cs := #[.int .i64 a1_0, .int .i64 a1_1, .int .i64 a1_2, .string a1_3, .int .i64 a1_4, .int .i64 a1_5, .string a1_6]) (t := 50) ?hr ?_; (case hd => rfl); (case hg => rfl); (case hr => first | (go_simp; done) | (go_simp; rfl)); intro gb599 hg w5 hbox hb; have n0_ := Aside0.mk (below_step (by repeat (first | (with_reducible first | exact HB.out | apply below_alloc | apply pw_below_drewN | apply below_drew1) | exact HB.out)) hb); have n1_ := Aside0.mk (hbox); have n2_ := Aside0.mk ((by rw [hg]; exact (below_size (by repeat (first | (with_reducible first | exact HB.out | apply below_alloc | apply pw_below_drewN | apply below_drew1) | exact HB.out))) : w.heap.size ≤ gb599)); have n3_ := Aside0.mk ((by rw [hg]; exact (below_size (by repeat (first | (with_reducible first | exact HB.out | apply below_alloc | apply pw_below_drewN | apply below_drew1) | exact HB.out))) : w.heap.size ≤ gb599)); clear HB; have HB := n0_; have BK599 := n1_; have GW599 := n2_; have GE599 := n3_; clear n0_ n1_ n2_ n3_; clear hb hbox hg) | ((with_reducible refine gate_dst (N := 4) rfl ?_); refine box_event ?hg (N := 4) ?hd (cs := #[.int .i64 0, .int .i64 0, .int .i64 0, .string (⟨#[]⟩ : ByteArray), .int .i64 0, .int .i64 0, .string (⟨#[]⟩ : ByteArray)]) (t := 50) ?hr ?_; (case hd => rfl); (case hg => rfl); (case hr => first | (go_simp; done) | (go_simp; rfl)); intro gb600 hg w6 hbox hb; have n0_ := Aside0.mk (blk_below (g := gb599) (o := .cells #[.int .i64 a1_0, .int .i64 a1_1, .int .i64 a1_2, .string a1_3, .int .i64 a1_4, .int .i64 a1_5, .string a1_6] 50 (0, 0)) (by (with_reducible repeat (first | refine blk_drewN ?_ _ | refine blk_drew ?_ | refine blk_alloc ?_ _)); exact BK599.out) hb); have n1_ := Aside0.mk (below_step (by repeat (first | (with_reducible first | exact HB.out | apply below_alloc | apply pw_below_drewN | apply below_drew1 | refine below_set ?_ GE599.out) | exact HB.out)) hb); have n2_ := Aside0.mk (hbox); have n3_ := Aside0.mk ((by rw [hg]; exact (below_size (by repeat (first | (with_reducible first | exact HB.out | apply below_alloc | apply pw_below_drewN | apply below_drew1 | refine below_set ?_ GE599.out) | exact HB.out))) : w.heap.size ≤ gb600)); have n4_ := Aside0.mk ((by rw [hg]; exact (below_size (by repeat (first | (with_reducible first | exact HB.out | apply below_alloc | apply pw_below_drewN | apply below_drew1 | refine below_set ?_ GE599.out) | exact HB.out))) : w.heap.size ≤ gb600)); have n5_ := Aside0.mk ((by rw [hg]; exact Nat.ne_of_lt (blk_lt (g := gb599) (o := .cells #[.int .i64 a1_0, .int .i64 a1_1, .int .i64 a1_2, .string a1_3, .int .i64 a1_4, .int .i64 a1_5, .string a1_6] 50 (0, 0)) (by (with_reducible repeat (first | refine blk_drewN ?_ _ | refine blk_drew ?_ | refine blk_alloc ?_ _)); exact BK599.out)) : gb599 ≠ gb600)); have n6_ := Aside0.mk ((by rw [hg]; exact Nat.ne_of_gt (blk_lt (g := gb599) (o := .cells #[.int .i64 a1_0, .int .i64 a1_1, .int .i64 a1_2, .string a1_3, .int .i64 a1_4, .int .i64 a1_5, .string a1_6] 50 (0, 0)) (by (with_reducible repeat (first | refine blk_drewN ?_ _ | refine blk_drew ?_ | refine blk_alloc ?_ _)); exact BK599.out)) : gb600 ≠ gb599)); clear BK599; clear HB; have BK599 := n0_; have HB := n1_; have BK600 := n2_; have GW600 := n3_; have GE600 := n4_; have NB599_600 := n5_; have NB600_599 := n6_; clear n0_ n1_ n2_ n3_ n4_ n5_ n6_; clear hb hbox hg))
  have n0_ := Aside0.mk (blk_drew BK599.out)
  have n1_ := Aside0.mk (blk_drew BK600.out)
  have n2_ := Aside0.mk (below_drew1 HB.out)
  clear BK599
  clear BK600
  clear HB
  have BK599 := n0_
  have BK600 := n1_
  have HB := n2_
  clear n0_ n1_ n2_
  refine start_ (n := 12) (S := fun w' => w'.cell? ⟨gb599, 0, none⟩ = some (.int .i64 a1_0) ∧ w'.cell? ⟨gb599, 1, none⟩ = some (.int .i64 a1_1) ∧ w'.cell? ⟨gb599, 2, none⟩ = some (.int .i64 a1_2) ∧ w'.cell? ⟨gb599, 3, none⟩ = some (.string a1_3) ∧ w'.cell? ⟨gb599, 4, none⟩ = some (.int .i64 a1_4) ∧ w'.cell? ⟨gb599, 5, none⟩ = some (.int .i64 a1_5) ∧ w'.cell? ⟨gb599, 6, none⟩ = some (.string a1_6)) (ds := []) #[false, false, false, false, false, false, false, false, false, false, false, false] (by kernel_rfl) rfl rfl ⟨(blk_cell BK599.out 0).trans rfl, (blk_cell BK599.out 1).trans rfl, (blk_cell BK599.out 2).trans rfl, (blk_cell BK599.out 3).trans rfl, (blk_cell BK599.out 4).trans rfl, (blk_cell BK599.out 5).trans rfl, (blk_cell BK599.out 6).trans rfl⟩ (fun hHeld => ?_); refine with_tabW hearsayref02_ApplyTest.tab1 hearsayref02_ApplyTest.bits1 (fun HT_ HW_ => ?_)
  generalize w6.drew = w7 at BK599 BK600 HB hHeld ⊢
  refine pure_ (i := 0) (N := some 5) (v := ?_) (a' := ?_) #[true, false, false, false, false, false, false, false, false, false, false, false] rfl rfl (any_of HT_.out (by kernel_rfl)) (fun _ _ _ h => h) (Or.inl ⟨by rfl, ?_⟩) ?_ ?_
  rotate_left
  · intro w'
    go_simp
    with_reducible rfl
  rotate_left
  · simp only [Act.put, List.setIfInBounds_toArray, List.set_cons_zero, List.set_cons_succ, i64_w, i32_w]
    rfl
  refine pure_ (i := 2) (N := some 7) (v := ?_) (a' := ?_) #[true, false, true, false, false, false, false, false, false, false, false, false] rfl rfl (any_of HT_.out (by kernel_rfl)) (fun _ _ _ h => h) (Or.inl ⟨by rfl, ?_⟩) ?_ ?_
  rotate_left
  · intro w'
    go_simp
    with_reducible rfl
  rotate_left
  · simp only [Act.put, List.setIfInBounds_toArray, List.set_cons_zero, List.set_cons_succ, i64_w, i32_w]
    rfl
  refine pure_ (i := 3) (N := some 8) (v := ?_) (a' := ?_) #[true, false, true, true, false, false, false, false, false, false, false, false] rfl rfl (any_of HT_.out (by kernel_rfl)) (fun _ _ _ h => h) (Or.inl ⟨by rfl, ?_⟩) ?_ ?_
  rotate_left
  · intro w'
    go_simp
    with_reducible rfl
  rotate_left
  · simp only [Act.put, List.setIfInBounds_toArray, List.set_cons_zero, List.set_cons_succ, i64_w, i32_w]
    rfl
  refine pure_ (i := 6) (N := some 11) (v := ?_) (a' := ?_) #[true, false, true, true, false, false, true, false, false, false, false, false] rfl rfl (any_of HT_.out (by kernel_rfl)) (fun _ _ _ h => h) (Or.inl ⟨by rfl, ?_⟩) ?_ ?_
  rotate_left
  · intro w'
    go_simp
    with_reducible rfl
  rotate_left
  · simp only [Act.put, List.setIfInBounds_toArray, List.set_cons_zero, List.set_cons_succ, i64_w, i32_w]
    rfl
  refine pure_ (i := 7) (N := some 12) (v := ?_) (a' := ?_) #[true, false, true, true, false, false, true, true, false, false, false, false] rfl rfl (any_of HT_.out (by kernel_rfl)) (fun _ _ _ h => h) (Or.inl ⟨by rfl, ?_⟩) ?_ ?_
  rotate_left
  · intro w'
    go_simp
    with_reducible rfl
  rotate_left
  · simp only [Act.put, List.setIfInBounds_toArray, List.set_cons_zero, List.set_cons_succ, i64_w, i32_w]
    rfl
  refine take_ (i := 1) (N := some 6) (v := ?_) (a' := ?_) #[true, true, true, true, false, false, true, true, false, false, false, false] rfl rfl (take_ofW HT_.out HW_.out (by kernel_rfl)) (fun _ _ _ h => h) (Or.inl ⟨by rfl, ?_⟩) hHeld ?_ ?_
  rotate_left
  · rintro w' ⟨s0, s1, s2, s3, s4, s5, s6⟩
    go_simp
    with_reducible rfl
  rotate_left
  · simp only [Act.put, List.setIfInBounds_toArray, List.set_cons_zero, List.set_cons_succ, i64_w, i32_w]
    rfl
  refine take_ (i := 4) (N := some 9) (v := ?_) (a' := ?_) #[true, true, true, true, true, false, true, true, false, false, false, false] rfl rfl (take_ofW HT_.out HW_.out (by kernel_rfl)) (fun _ _ _ h => h) (Or.inl ⟨by rfl, ?_⟩) hHeld ?_ ?_
  rotate_left
  · rintro w' ⟨s0, s1, s2, s3, s4, s5, s6⟩
    go_simp
    with_reducible rfl
  rotate_left
  · simp only [Act.put, List.setIfInBounds_toArray, List.set_cons_zero, List.set_cons_succ, i64_w, i32_w]
    rfl
  refine take_ (i := 8) (N := some 13) (v := ?_) (a' := ?_) #[true, true, true, true, true, false, true, true, true, false, false, false] rfl rfl (take_ofW HT_.out HW_.out (by kernel_rfl)) (fun _ _ _ h => h) (Or.inl ⟨by rfl, ?_⟩) hHeld ?_ ?_
  rotate_left
  · rintro w' ⟨s0, s1, s2, s3, s4, s5, s6⟩
    go_simp
    with_reducible rfl
  rotate_left
  · simp only [Act.put, List.setIfInBounds_toArray, List.set_cons_zero, List.set_cons_succ, i64_w, i32_w]
    rfl
  refine one_ (i := 5) (N := some 10) #[true, true, true, true, true, true, true, true, true, false, false, false] rfl rfl (one_of HT_.out (by kernel_rfl)) (by decide) (fun K hK => ?_)
  refine goes_ Tryd.func58 (by kernel_rfl) rfl #[.slice A0 l0.length c0, .agg #[.int .i64 a1_1, .int .i64 a1_2, .string a1_3]] (by rfl) rfl rfl (by (try simp only [List.map_toArray, List.map_cons, List.map_nil]); first | done | rfl | (simp only [List.length_drop, List.length_take]; rfl)) ?_
  with_reducible refine (hearsayref02_Become.calls k _ _ l0 a1_1 a1_2 a1_3 t601 t602 t603 _ ?side1 ?side2 A3.out).mono ?_
  (case side1 => repeat (first | exact (Kd.C_below HR0.out HB.out) | (with_reducible refine Kd.C_alloc ?_ _) | (with_reducible refine Kd.C_drewN ?_ _) | (with_reducible refine Kd.C_drew ?_)))
  (case side2 => exact HC0.out)
  rintro e w8 ⟨rfl, hb⟩
  refine ⟨_, rfl, ?_⟩
  have n0_ := Aside0.mk (blk_below (g := gb599) (o := .cells #[.int .i64 a1_0, .int .i64 a1_1, .int .i64 a1_2, .string a1_3, .int .i64 a1_4, .int .i64 a1_5, .string a1_6] 50 (0, 0)) (by (with_reducible repeat (first | refine blk_drewN ?_ _ | refine blk_drew ?_ | refine blk_alloc ?_ _)); exact BK599.out) hb)
  have n1_ := Aside0.mk (blk_below (g := gb600) (o := .cells #[.int .i64 0, .int .i64 0, .int .i64 0, .string (⟨#[]⟩ : ByteArray), .int .i64 0, .int .i64 0, .string (⟨#[]⟩ : ByteArray)] 50 (0, 0)) (by (with_reducible repeat (first | refine blk_drewN ?_ _ | refine blk_drew ?_ | refine blk_alloc ?_ _)); exact BK600.out) hb)
  have n2_ := Aside0.mk (below_step (by repeat (first | (with_reducible first | exact HB.out | apply below_alloc | apply pw_below_drewN | apply below_drew1 | refine below_set ?_ GE599.out | refine below_set ?_ GE600.out) | exact HB.out)) hb)
  clear BK599
  clear BK600
  clear HB
  have BK599 := n0_
  have BK600 := n1_
  have HB := n2_
  clear n0_ n1_ n2_
  (try clear hb)
  (try clear hb2)
  (try clear hk)
  (try clear hi)
  refine hK.out _ _ ⟨(blk_cell BK599.out 0).trans rfl, (blk_cell BK599.out 1).trans rfl, (blk_cell BK599.out 2).trans rfl, (blk_cell BK599.out 3).trans rfl, (blk_cell BK599.out 4).trans rfl, (blk_cell BK599.out 5).trans rfl, (blk_cell BK599.out 6).trans rfl⟩ (fun hHeld => ?_)
  clear hK K
  refine norm_ (a' := ?_) ?_ ?_
  rotate_left
  · show Act.put _ (some 10) _ = _
    simp only [Act.put, List.setIfInBounds_toArray, List.set_cons_zero, List.set_cons_succ, i64_w, i32_w]
    rfl
  refine one_ (i := 9) (N := some 14) #[true, true, true, true, true, true, true, true, true, true, false, false] rfl rfl (one_of HT_.out (by kernel_rfl)) (by decide) (fun K hK => ?_)
  refine goes_ Tryd.func58 (by kernel_rfl) rfl #[.slice A0 l0.length c0, .agg #[.int .i64 a1_4, .int .i64 a1_5, .string a1_6]] (by rfl) rfl rfl (by (try simp only [List.map_toArray, List.map_cons, List.map_nil]); first | done | rfl | (simp only [List.length_drop, List.length_take]; rfl)) ?_
  with_reducible refine (hearsayref02_Become.calls k _ _ l0 a1_4 a1_5 a1_6 t604 t605 t606 _ ?side1 ?side2 A4.out).mono ?_
  (case side1 => repeat (first | exact (Kd.C_below HR0.out HB.out) | (with_reducible refine Kd.C_alloc ?_ _) | (with_reducible refine Kd.C_drewN ?_ _) | (with_reducible refine Kd.C_drew ?_)))
  (case side2 => exact HC0.out)
  rintro e w9 ⟨rfl, hb⟩
  refine ⟨_, rfl, ?_⟩
  have n0_ := Aside0.mk (blk_below (g := gb599) (o := .cells #[.int .i64 a1_0, .int .i64 a1_1, .int .i64 a1_2, .string a1_3, .int .i64 a1_4, .int .i64 a1_5, .string a1_6] 50 (0, 0)) (by (with_reducible repeat (first | refine blk_drewN ?_ _ | refine blk_drew ?_ | refine blk_alloc ?_ _)); exact BK599.out) hb)
  have n1_ := Aside0.mk (blk_below (g := gb600) (o := .cells #[.int .i64 0, .int .i64 0, .int .i64 0, .string (⟨#[]⟩ : ByteArray), .int .i64 0, .int .i64 0, .string (⟨#[]⟩ : ByteArray)] 50 (0, 0)) (by (with_reducible repeat (first | refine blk_drewN ?_ _ | refine blk_drew ?_ | refine blk_alloc ?_ _)); exact BK600.out) hb)
  have n2_ := Aside0.mk (below_step (by repeat (first | (with_reducible first | exact HB.out | apply below_alloc | apply pw_below_drewN | apply below_drew1 | refine below_set ?_ GE599.out | refine below_set ?_ GE600.out) | exact HB.out)) hb)
  clear BK599
  clear BK600
  clear HB
  have BK599 := n0_
  have BK600 := n1_
  have HB := n2_
  clear n0_ n1_ n2_
  (try clear hb)
  (try clear hb2)
  (try clear hk)
  (try clear hi)
  refine hK.out _ _ ⟨(blk_cell BK599.out 0).trans rfl, (blk_cell BK599.out 1).trans rfl, (blk_cell BK599.out 2).trans rfl, (blk_cell BK599.out 3).trans rfl, (blk_cell BK599.out 4).trans rfl, (blk_cell BK599.out 5).trans rfl, (blk_cell BK599.out 6).trans rfl⟩ (fun hHeld => ?_)
  clear hK K
  refine norm_ (a' := ?_) ?_ ?_
  rotate_left
  · show Act.put _ (some 14) _ = _
    simp only [Act.put, List.setIfInBounds_toArray, List.set_cons_zero, List.set_cons_succ, i64_w, i32_w]
    rfl
  refine pure_ (i := 10) (N := some 15) (v := ?_) (a' := ?_) #[true, true, true, true, true, true, true, true, true, true, true, false] rfl rfl (any_of HT_.out (by kernel_rfl)) (fun _ _ _ h => h) (Or.inl ⟨by rfl, ?_⟩) ?_ ?_
  rotate_left
  · intro w'
    go_simp
    with_reducible rfl
  rotate_left
  · simp only [Act.put, List.setIfInBounds_toArray, List.set_cons_zero, List.set_cons_succ, i64_w, i32_w]
    rfl
  refine one_ (i := 11) (N := none) #[true, true, true, true, true, true, true, true, true, true, true, true] rfl rfl (one_of HT_.out (by kernel_rfl)) (by decide) (fun K hK => ?_)
  have hs10 : w9.cell? ⟨gb600, 0, none⟩ = some (.int .i64 0) := (blk_cell BK600.out 0).trans rfl
  have hfs10 := blk_frozen BK600.out 0
  have hns10_0 := NB599_600.out
  have hms10_0 := NB600_599.out
  have hs11 : w9.cell? ⟨gb600, 1, none⟩ = some (.int .i64 0) := (blk_cell BK600.out 1).trans rfl
  have hfs11 := blk_frozen BK600.out 1
  have hns11_0 := NB599_600.out
  have hms11_0 := NB600_599.out
  have hs12 : w9.cell? ⟨gb600, 2, none⟩ = some (.int .i64 0) := (blk_cell BK600.out 2).trans rfl
  have hfs12 := blk_frozen BK600.out 2
  have hns12_0 := NB599_600.out
  have hms12_0 := NB600_599.out
  have hs13 : w9.cell? ⟨gb600, 3, none⟩ = some (.string (⟨#[]⟩ : ByteArray)) := (blk_cell BK600.out 3).trans rfl
  have hfs13 := blk_frozen BK600.out 3
  have hns13_0 := NB599_600.out
  have hms13_0 := NB600_599.out
  have hs14 : w9.cell? ⟨gb600, 4, none⟩ = some (.int .i64 0) := (blk_cell BK600.out 4).trans rfl
  have hfs14 := blk_frozen BK600.out 4
  have hns14_0 := NB599_600.out
  have hms14_0 := NB600_599.out
  have hs15 : w9.cell? ⟨gb600, 5, none⟩ = some (.int .i64 0) := (blk_cell BK600.out 5).trans rfl
  have hfs15 := blk_frozen BK600.out 5
  have hns15_0 := NB599_600.out
  have hms15_0 := NB600_599.out
  have hs16 : w9.cell? ⟨gb600, 6, none⟩ = some (.string (⟨#[]⟩ : ByteArray)) := (blk_cell BK600.out 6).trans rfl
  have hfs16 := blk_frozen BK600.out 6
  have hns16_0 := NB599_600.out
  have hms16_0 := NB600_599.out
  refine skip_ (w1 := ?_) (by rfl) rfl ?_ ?_
  rotate_left
  · go_simp
    rfl
  refine hK.out _ _ ⟨((cell_far (p := ⟨gb600, _, none⟩) NB599_600.out _).trans (((cell_far (p := ⟨gb600, _, none⟩) NB599_600.out _).trans (((cell_far (p := ⟨gb600, _, none⟩) NB599_600.out _).trans (((cell_far (p := ⟨gb600, _, none⟩) NB599_600.out _).trans (((cell_far (p := ⟨gb600, _, none⟩) NB599_600.out _).trans (((cell_far (p := ⟨gb600, _, none⟩) NB599_600.out _).trans (((cell_far (p := ⟨gb600, _, none⟩) NB599_600.out _).trans (hHeld.1)))))))))))))), ((cell_far (p := ⟨gb600, _, none⟩) NB599_600.out _).trans (((cell_far (p := ⟨gb600, _, none⟩) NB599_600.out _).trans (((cell_far (p := ⟨gb600, _, none⟩) NB599_600.out _).trans (((cell_far (p := ⟨gb600, _, none⟩) NB599_600.out _).trans (((cell_far (p := ⟨gb600, _, none⟩) NB599_600.out _).trans (((cell_far (p := ⟨gb600, _, none⟩) NB599_600.out _).trans (((cell_far (p := ⟨gb600, _, none⟩) NB599_600.out _).trans (hHeld.2.1)))))))))))))), ((cell_far (p := ⟨gb600, _, none⟩) NB599_600.out _).trans (((cell_far (p := ⟨gb600, _, none⟩) NB599_600.out _).trans (((cell_far (p := ⟨gb600, _, none⟩) NB599_600.out _).trans (((cell_far (p := ⟨gb600, _, none⟩) NB599_600.out _).trans (((cell_far (p := ⟨gb600, _, none⟩) NB599_600.out _).trans (((cell_far (p := ⟨gb600, _, none⟩) NB599_600.out _).trans (((cell_far (p := ⟨gb600, _, none⟩) NB599_600.out _).trans (hHeld.2.2.1)))))))))))))), ((cell_far (p := ⟨gb600, _, none⟩) NB599_600.out _).trans (((cell_far (p := ⟨gb600, _, none⟩) NB599_600.out _).trans (((cell_far (p := ⟨gb600, _, none⟩) NB599_600.out _).trans (((cell_far (p := ⟨gb600, _, none⟩) NB599_600.out _).trans (((cell_far (p := ⟨gb600, _, none⟩) NB599_600.out _).trans (((cell_far (p := ⟨gb600, _, none⟩) NB599_600.out _).trans (((cell_far (p := ⟨gb600, _, none⟩) NB599_600.out _).trans (hHeld.2.2.2.1)))))))))))))), ((cell_far (p := ⟨gb600, _, none⟩) NB599_600.out _).trans (((cell_far (p := ⟨gb600, _, none⟩) NB599_600.out _).trans (((cell_far (p := ⟨gb600, _, none⟩) NB599_600.out _).trans (((cell_far (p := ⟨gb600, _, none⟩) NB599_600.out _).trans (((cell_far (p := ⟨gb600, _, none⟩) NB599_600.out _).trans (((cell_far (p := ⟨gb600, _, none⟩) NB599_600.out _).trans (((cell_far (p := ⟨gb600, _, none⟩) NB599_600.out _).trans (hHeld.2.2.2.2.1)))))))))))))), ((cell_far (p := ⟨gb600, _, none⟩) NB599_600.out _).trans (((cell_far (p := ⟨gb600, _, none⟩) NB599_600.out _).trans (((cell_far (p := ⟨gb600, _, none⟩) NB599_600.out _).trans (((cell_far (p := ⟨gb600, _, none⟩) NB599_600.out _).trans (((cell_far (p := ⟨gb600, _, none⟩) NB599_600.out _).trans (((cell_far (p := ⟨gb600, _, none⟩) NB599_600.out _).trans (((cell_far (p := ⟨gb600, _, none⟩) NB599_600.out _).trans (hHeld.2.2.2.2.2.1)))))))))))))), ((cell_far (p := ⟨gb600, _, none⟩) NB599_600.out _).trans (((cell_far (p := ⟨gb600, _, none⟩) NB599_600.out _).trans (((cell_far (p := ⟨gb600, _, none⟩) NB599_600.out _).trans (((cell_far (p := ⟨gb600, _, none⟩) NB599_600.out _).trans (((cell_far (p := ⟨gb600, _, none⟩) NB599_600.out _).trans (((cell_far (p := ⟨gb600, _, none⟩) NB599_600.out _).trans (((cell_far (p := ⟨gb600, _, none⟩) NB599_600.out _).trans (hHeld.2.2.2.2.2.2))))))))))))))⟩ (fun hHeld => ?_)
  clear hK K
  refine done_ (done_of HT_.out (by kernel_rfl)) ?_
  try go_wp2
  refine bodyPost_ret (results_cell_row rfl _ _ gb600 50 #[.int .i64 a1_0, .int .i64 t601, .int .i64 t602, .string t603, .int .i64 t604, .int .i64 t605, .string t606] (0, 0) _ rfl (by (with_reducible repeat (first | refine blk_drewN ?_ _ | refine blk_drew ?_ | refine blk_alloc ?_ _)); refine blk_put (cs := #[.int .i64 a1_0, .int .i64 t601, .int .i64 t602, .string t603, .int .i64 t604, .int .i64 t605, .string (⟨#[]⟩ : ByteArray)]) ?_ 6 _ rfl; (with_reducible repeat (first | refine blk_drewN ?_ _ | refine blk_drew ?_ | refine blk_alloc ?_ _)); refine blk_put (cs := #[.int .i64 a1_0, .int .i64 t601, .int .i64 t602, .string t603, .int .i64 t604, .int .i64 0, .string (⟨#[]⟩ : ByteArray)]) ?_ 5 _ rfl; (with_reducible repeat (first | refine blk_drewN ?_ _ | refine blk_drew ?_ | refine blk_alloc ?_ _)); refine blk_put (cs := #[.int .i64 a1_0, .int .i64 t601, .int .i64 t602, .string t603, .int .i64 0, .int .i64 0, .string (⟨#[]⟩ : ByteArray)]) ?_ 4 _ rfl; (with_reducible repeat (first | refine blk_drewN ?_ _ | refine blk_drew ?_ | refine blk_alloc ?_ _)); refine blk_put (cs := #[.int .i64 a1_0, .int .i64 t601, .int .i64 t602, .string (⟨#[]⟩ : ByteArray), .int .i64 0, .int .i64 0, .string (⟨#[]⟩ : ByteArray)]) ?_ 3 _ rfl; (with_reducible repeat (first | refine blk_drewN ?_ _ | refine blk_drew ?_ | refine blk_alloc ?_ _)); refine blk_put (cs := #[.int .i64 a1_0, .int .i64 t601, .int .i64 0, .string (⟨#[]⟩ : ByteArray), .int .i64 0, .int .i64 0, .string (⟨#[]⟩ : ByteArray)]) ?_ 2 _ rfl; (with_reducible repeat (first | refine blk_drewN ?_ _ | refine blk_drew ?_ | refine blk_alloc ?_ _)); refine blk_put (cs := #[.int .i64 a1_0, .int .i64 0, .int .i64 0, .string (⟨#[]⟩ : ByteArray), .int .i64 0, .int .i64 0, .string (⟨#[]⟩ : ByteArray)]) ?_ 1 _ rfl; (with_reducible repeat (first | refine blk_drewN ?_ _ | refine blk_drew ?_ | refine blk_alloc ?_ _)); refine blk_put (cs := #[.int .i64 0, .int .i64 0, .int .i64 0, .string (⟨#[]⟩ : ByteArray), .int .i64 0, .int .i64 0, .string (⟨#[]⟩ : ByteArray)]) ?_ 0 _ rfl; (with_reducible repeat (first | refine blk_drewN ?_ _ | refine blk_drew ?_ | refine blk_alloc ?_ _)); exact BK600.out) Tryd.underlying50 rfl (by kernel_rfl)) rfl ?_
  exact ⟨by first | rfl | (simp [errW_none, errW_some] <;> rfl) | (simp [errW_none, errW_some, bne, show ∀ l_ : List UInt8, (l_ == []) = l_.isEmpty from fun l_ => by cases l_ <;> rfl]; done) | (simp [*, errW_none, errW_some] <;> rfl), by repeat (first | (with_reducible first | exact HB.out | apply below_alloc | apply pw_below_drewN | apply below_drew1 | refine below_set ?_ GE599.out | refine below_set ?_ GE600.out) | exact HB.out)⟩

end Go.Proofs.YtnomgmlfagiffaaDoor.T
