/- T22: texts of this claim, laid together. -/
import Derived.Test.YtnomgmlfagiffaaDoorM0At
import Derived.Test.YtnomgmlfagiffaaDoorM3At
import Derived.Test.YtnomgmlfagiffaaDoorM5At
-- By a program of this session (wip/tools/myprint.py), out of the translation.
namespace Go.Proofs.YtnomgmlfagiffaaDoor.T
open Go.RowKit Go.Proofs.YtnomgmlfagiffaaDoorW.PrintWords Go.Proofs.YtnomgmlfagiffaaDoorW.PrintLast Go.Proofs.YtnomgmlfagiffaaDoorW.PrintMore
attribute [local go_sem] max2_int min2_int max_two min_two max_three min_three max_four min_four   -- for this text's walks alone
set_option linter.unusedVariables false
set_option linter.unusedSimpArgs false

mutual
def hearsayref02_CheckAtom.j0 : Nat → Bool → Int → Int → ByteArray → ByteArray → List (S23) → Option (Int)
  | 0, _, _, _, _, _, _ => none
  | k + 1, x27, x647000, x647001, x647002, x647003, x647004 => if x27 = true then (some 23) else (hearsayref02_CheckAtom.l0 k 0 x647000 x647001 x647002 x647003 x647004)
def hearsayref02_CheckAtom.l0 : Nat → Int → Int → Int → ByteArray → ByteArray → List (S23) → Option (Int)
  | 0, _, _, _, _, _, _ => none
  | k + 1, x3, x647000, x647001, x647002, x647003, x647004 => if x3 < (x647004.length : Int) then (if 0 ≤ x3 then ((hearsayref02_Const.f ((rd_T23 x647004 x3).f0) ((rd_T23 x647004 x3).f1) ((rd_T23 x647004 x3).f2)).bind fun t655 => (if t655 = true then (hearsayref02_CheckAtom.l0 k (wrap64 (x3 + 1)) x647000 x647001 x647002 x647003 x647004) else ((hearsayref02_Variable.f ((rd_T23 x647004 x3).f0) ((rd_T23 x647004 x3).f1) ((rd_T23 x647004 x3).f2)).bind fun t657 => (if t657 = true then (hearsayref02_CheckAtom.l0 k (wrap64 (x3 + 1)) x647000 x647001 x647002 x647003 x647004) else (some 24))))) else (none)) else (some 0)
end
def hearsayref02_CheckAtom.f (k : Nat) (a0_0 : Int) (a0_1 : Int) (a0_2 : ByteArray) (a0_3 : ByteArray) (l0_4 : List (S23)) : Option (Int) := (hearsayref02_Name.f k a0_3).bind fun t647 => (if t647 = true then (if (l0_4.length : Int) > 8 then (some 22) else (if a0_0 = 0 then (if a0_1 = 0 then (if a0_2.toList = ([] : List UInt8) then (hearsayref02_CheckAtom.j0 k false a0_0 a0_1 a0_2 a0_3 l0_4) else ((hearsayref02_Principal.f a0_0 a0_1 a0_2).bind fun t648 => (if t648 = true then (hearsayref02_CheckAtom.j0 k false a0_0 a0_1 a0_2 a0_3 l0_4) else ((hearsayref02_Variable.f a0_0 a0_1 a0_2).bind fun t649 => (hearsayref02_CheckAtom.j0 k (!t649) a0_0 a0_1 a0_2 a0_3 l0_4))))) else ((hearsayref02_Principal.f a0_0 a0_1 a0_2).bind fun t650 => (if t650 = true then (hearsayref02_CheckAtom.j0 k false a0_0 a0_1 a0_2 a0_3 l0_4) else ((hearsayref02_Variable.f a0_0 a0_1 a0_2).bind fun t651 => (hearsayref02_CheckAtom.j0 k (!t651) a0_0 a0_1 a0_2 a0_3 l0_4))))) else ((hearsayref02_Principal.f a0_0 a0_1 a0_2).bind fun t652 => (if t652 = true then (hearsayref02_CheckAtom.j0 k false a0_0 a0_1 a0_2 a0_3 l0_4) else ((hearsayref02_Variable.f a0_0 a0_1 a0_2).bind fun t653 => (hearsayref02_CheckAtom.j0 k (!t653) a0_0 a0_1 a0_2 a0_3 l0_4)))))) else (some 21))
set_option maxHeartbeats 8000000 in
set_option maxRecDepth 100000 in
theorem hearsayref02_CheckAtom.calls (k : Nat) (a0_0 : Int) (a0_1 : Int) (a0_2 : ByteArray) (a0_3 : ByteArray) (A0_4 : Option Addr) (c0_4 : Nat) (l0_4 : List (S23)) (r : Int) (w : World) (hr0_4 : Kd.C k23 w A0_4 l0_4.length l0_4) (hc0_4 : l0_4.length ≤ c0_4) (h : hearsayref02_CheckAtom.f k a0_0 a0_1 a0_2 a0_3 l0_4 = some r) :
    Calls Tryd.prog 40 #[.agg #[.int .i64 a0_0, .int .i64 a0_1, .string a0_2, .string a0_3, .slice A0_4 l0_4.length c0_4]] w fun e w' => e = .returned (.int .i64 r) ∧ Below w.heap.size w w' := by
  have hu26 := Tryd.underlying26
  have hu23 := Tryd.underlying23
  have HR0_4 := Aside0.mk hr0_4
  have HC0_4 := Aside0.mk hc0_4
  clear hr0_4 hc0_4
  have HB := Aside0.mk (Below.refl w.heap.size w)
  have H : ((hearsayref02_Name.f k a0_3).bind fun t647 => (if t647 = true then (if (l0_4.length : Int) > 8 then (some 22) else (if a0_0 = 0 then (if a0_1 = 0 then (if a0_2.toList = ([] : List UInt8) then (hearsayref02_CheckAtom.j0 k false a0_0 a0_1 a0_2 a0_3 l0_4) else ((hearsayref02_Principal.f a0_0 a0_1 a0_2).bind fun t648 => (if t648 = true then (hearsayref02_CheckAtom.j0 k false a0_0 a0_1 a0_2 a0_3 l0_4) else ((hearsayref02_Variable.f a0_0 a0_1 a0_2).bind fun t649 => (hearsayref02_CheckAtom.j0 k (!t649) a0_0 a0_1 a0_2 a0_3 l0_4))))) else ((hearsayref02_Principal.f a0_0 a0_1 a0_2).bind fun t650 => (if t650 = true then (hearsayref02_CheckAtom.j0 k false a0_0 a0_1 a0_2 a0_3 l0_4) else ((hearsayref02_Variable.f a0_0 a0_1 a0_2).bind fun t651 => (hearsayref02_CheckAtom.j0 k (!t651) a0_0 a0_1 a0_2 a0_3 l0_4))))) else ((hearsayref02_Principal.f a0_0 a0_1 a0_2).bind fun t652 => (if t652 = true then (hearsayref02_CheckAtom.j0 k false a0_0 a0_1 a0_2 a0_3 l0_4) else ((hearsayref02_Variable.f a0_0 a0_1 a0_2).bind fun t653 => (hearsayref02_CheckAtom.j0 k (!t653) a0_0 a0_1 a0_2 a0_3 l0_4)))))) else (some 21))) = some r := h
  clear h
  replace H := Option.bind_eq_some_iff.mp H
  obtain ⟨t647, A20, H⟩ := H
  replace H : (if t647 = true then (if (l0_4.length : Int) > 8 then (some 22) else (if a0_0 = 0 then (if a0_1 = 0 then (if a0_2.toList = ([] : List UInt8) then (hearsayref02_CheckAtom.j0 k false a0_0 a0_1 a0_2 a0_3 l0_4) else ((hearsayref02_Principal.f a0_0 a0_1 a0_2).bind fun t648 => (if t648 = true then (hearsayref02_CheckAtom.j0 k false a0_0 a0_1 a0_2 a0_3 l0_4) else ((hearsayref02_Variable.f a0_0 a0_1 a0_2).bind fun t649 => (hearsayref02_CheckAtom.j0 k (!t649) a0_0 a0_1 a0_2 a0_3 l0_4))))) else ((hearsayref02_Principal.f a0_0 a0_1 a0_2).bind fun t650 => (if t650 = true then (hearsayref02_CheckAtom.j0 k false a0_0 a0_1 a0_2 a0_3 l0_4) else ((hearsayref02_Variable.f a0_0 a0_1 a0_2).bind fun t651 => (hearsayref02_CheckAtom.j0 k (!t651) a0_0 a0_1 a0_2 a0_3 l0_4))))) else ((hearsayref02_Principal.f a0_0 a0_1 a0_2).bind fun t652 => (if t652 = true then (hearsayref02_CheckAtom.j0 k false a0_0 a0_1 a0_2 a0_3 l0_4) else ((hearsayref02_Variable.f a0_0 a0_1 a0_2).bind fun t653 => (hearsayref02_CheckAtom.j0 k (!t653) a0_0 a0_1 a0_2 a0_3 l0_4)))))) else (some 21)) = some r := H
  have A2 := Aside0.mk A20
  clear A20
  by_cases c3 : t647 = true
  · subst c3
    have H1 : (if (l0_4.length : Int) > 8 then (some 22) else (if a0_0 = 0 then (if a0_1 = 0 then (if a0_2.toList = ([] : List UInt8) then (hearsayref02_CheckAtom.j0 k false a0_0 a0_1 a0_2 a0_3 l0_4) else ((hearsayref02_Principal.f a0_0 a0_1 a0_2).bind fun t648 => (if t648 = true then (hearsayref02_CheckAtom.j0 k false a0_0 a0_1 a0_2 a0_3 l0_4) else ((hearsayref02_Variable.f a0_0 a0_1 a0_2).bind fun t649 => (hearsayref02_CheckAtom.j0 k (!t649) a0_0 a0_1 a0_2 a0_3 l0_4))))) else ((hearsayref02_Principal.f a0_0 a0_1 a0_2).bind fun t650 => (if t650 = true then (hearsayref02_CheckAtom.j0 k false a0_0 a0_1 a0_2 a0_3 l0_4) else ((hearsayref02_Variable.f a0_0 a0_1 a0_2).bind fun t651 => (hearsayref02_CheckAtom.j0 k (!t651) a0_0 a0_1 a0_2 a0_3 l0_4))))) else ((hearsayref02_Principal.f a0_0 a0_1 a0_2).bind fun t652 => (if t652 = true then (hearsayref02_CheckAtom.j0 k false a0_0 a0_1 a0_2 a0_3 l0_4) else ((hearsayref02_Variable.f a0_0 a0_1 a0_2).bind fun t653 => (hearsayref02_CheckAtom.j0 k (!t653) a0_0 a0_1 a0_2 a0_3 l0_4)))))) = some r := by rw [if_pos rfl] at H; exact H
    clear H
    have H := H1
    clear H1
    by_cases c4 : (l0_4.length : Int) > 8
    · rw [if_pos c4] at H
      have c4b0 : decide (8 < (l0_4.length : Int)) = true := decide_eq_true c4
      have c4b1 : decide (8 < l0_4.length) = true := decide_eq_true (by omega)
      clear c4
      obtain rfl := Option.some.inj H
      go_enter Tryd.func40, Tryd.ntmps40
      go_wp2_with (first | ((with_reducible refine gate_dst (N := 1) rfl ?_); refine box_event ?hg (N := 1) ?hd (cs := #[.int .i64 a0_0, .int .i64 a0_1, .string a0_2, .string a0_3, .slice A0_4 l0_4.length c0_4]) (t := 26) ?hr ?_; (case hd => rfl); (case hg => rfl); (case hr => first | (go_simp; done) | (go_simp; rfl)); intro gb646 hg w5 hbox hb; have n0_ := Aside0.mk (below_step (by repeat (first | (with_reducible first | exact HB.out | apply below_alloc | apply pw_below_drewN | apply below_drew1) | exact HB.out)) hb); have n1_ := Aside0.mk (hbox); have n2_ := Aside0.mk ((by rw [hg]; exact (below_size (by repeat (first | (with_reducible first | exact HB.out | apply below_alloc | apply pw_below_drewN | apply below_drew1) | exact HB.out))) : w.heap.size ≤ gb646)); have n3_ := Aside0.mk ((by rw [hg]; exact (below_size (by repeat (first | (with_reducible first | exact HB.out | apply below_alloc | apply pw_below_drewN | apply below_drew1) | exact HB.out))) : w.heap.size ≤ gb646)); clear HB; have HB := n0_; have BK646 := n1_; have GW646 := n2_; have GE646 := n3_; clear n0_ n1_ n2_ n3_; clear hb hbox hg; have hcz6_0 : w5.cell? ⟨gb646, 0, none⟩ = some (.int .i64 a0_0) := (blk_cell BK646.out 0).trans rfl; have hcz6_1 : w5.cell? ⟨gb646, 1, none⟩ = some (.int .i64 a0_1) := (blk_cell BK646.out 1).trans rfl; have hcz6_2 : w5.cell? ⟨gb646, 2, none⟩ = some (.string a0_2) := (blk_cell BK646.out 2).trans rfl; have hcz6_3 : w5.cell? ⟨gb646, 3, none⟩ = some (.string a0_3) := (blk_cell BK646.out 3).trans rfl; have hcz6_4 : w5.cell? ⟨gb646, 4, none⟩ = some (.slice A0_4 l0_4.length c0_4) := (blk_cell BK646.out 4).trans rfl; have hfz6_0 := blk_frozen BK646.out 0; have hfz6_1 := blk_frozen BK646.out 1; have hfz6_2 := blk_frozen BK646.out 2; have hfz6_3 := blk_frozen BK646.out 3; have hfz6_4 := blk_frozen BK646.out 4) | ((with_reducible refine gate_callee (f := 72) rfl ?_); refine goesL_ (some 6) rfl rfl Tryd.func72 (by kernel_rfl) rfl #[.string a0_3] rfl (by (try simp only [List.map_toArray, List.map_cons, List.map_nil]); first | done | rfl | (simp only [List.length_drop, List.length_take]; rfl)) ?_; (with_reducible refine (hearsayref02_Name.calls k a0_3 true _ A2.out).mono ?_); rintro e w' ⟨rfl, ⟨nd, rfl⟩⟩; refine ⟨_, rfl, ?_⟩))
      go_ret
      exact ⟨by first | rfl | (simp [errW_none, errW_some] <;> rfl) | (simp [errW_none, errW_some, bne, show ∀ l_ : List UInt8, (l_ == []) = l_.isEmpty from fun l_ => by cases l_ <;> rfl]; done) | (simp [*, errW_none, errW_some] <;> rfl), by repeat (first | (with_reducible first | exact HB.out | apply below_alloc | apply pw_below_drewN | apply below_drew1 | refine below_set ?_ GE646.out) | exact HB.out)⟩
    · rw [if_neg c4] at H
      have c4b0 : decide (8 < (l0_4.length : Int)) = false := decide_eq_false c4
      have c4b1 : decide (8 < l0_4.length) = false := decide_eq_false (by omega)
      clear c4
      have HC7 := Aside0.mk H
      clear H
      go_enter Tryd.func40, Tryd.ntmps40
      go_upto_region 5 with (first | ((with_reducible refine gate_dst (N := 1) rfl ?_); refine box_event ?hg (N := 1) ?hd (cs := #[.int .i64 a0_0, .int .i64 a0_1, .string a0_2, .string a0_3, .slice A0_4 l0_4.length c0_4]) (t := 26) ?hr ?_; (case hd => rfl); (case hg => rfl); (case hr => first | (go_simp; done) | (go_simp; rfl)); intro gb646 hg w8 hbox hb; have n0_ := Aside0.mk (below_step (by repeat (first | (with_reducible first | exact HB.out | apply below_alloc | apply pw_below_drewN | apply below_drew1) | exact HB.out)) hb); have n1_ := Aside0.mk (hbox); have n2_ := Aside0.mk ((by rw [hg]; exact (below_size (by repeat (first | (with_reducible first | exact HB.out | apply below_alloc | apply pw_below_drewN | apply below_drew1) | exact HB.out))) : w.heap.size ≤ gb646)); have n3_ := Aside0.mk ((by rw [hg]; exact (below_size (by repeat (first | (with_reducible first | exact HB.out | apply below_alloc | apply pw_below_drewN | apply below_drew1) | exact HB.out))) : w.heap.size ≤ gb646)); clear HB; have HB := n0_; have BK646 := n1_; have GW646 := n2_; have GE646 := n3_; clear n0_ n1_ n2_ n3_; clear hb hbox hg; have hcz9_0 : w8.cell? ⟨gb646, 0, none⟩ = some (.int .i64 a0_0) := (blk_cell BK646.out 0).trans rfl; have hcz9_1 : w8.cell? ⟨gb646, 1, none⟩ = some (.int .i64 a0_1) := (blk_cell BK646.out 1).trans rfl; have hcz9_2 : w8.cell? ⟨gb646, 2, none⟩ = some (.string a0_2) := (blk_cell BK646.out 2).trans rfl; have hcz9_3 : w8.cell? ⟨gb646, 3, none⟩ = some (.string a0_3) := (blk_cell BK646.out 3).trans rfl; have hcz9_4 : w8.cell? ⟨gb646, 4, none⟩ = some (.slice A0_4 l0_4.length c0_4) := (blk_cell BK646.out 4).trans rfl; have hfz9_0 := blk_frozen BK646.out 0; have hfz9_1 := blk_frozen BK646.out 1; have hfz9_2 := blk_frozen BK646.out 2; have hfz9_3 := blk_frozen BK646.out 3; have hfz9_4 := blk_frozen BK646.out 4) | ((with_reducible refine gate_callee (f := 72) rfl ?_); refine goesL_ (some 6) rfl rfl Tryd.func72 (by kernel_rfl) rfl #[.string a0_3] rfl (by (try simp only [List.map_toArray, List.map_cons, List.map_nil]); first | done | rfl | (simp only [List.length_drop, List.length_take]; rfl)) ?_; (with_reducible refine (hearsayref02_Name.calls k a0_3 true _ A2.out).mono ?_); rintro e w' ⟨rfl, ⟨nd, rfl⟩⟩; refine ⟨_, rfl, ?_⟩))
      (try simp only [Act.put, List.setIfInBounds_toArray, List.set_cons_zero, List.set_cons_succ])
      go_cut [27] (fun v27 wc => ∃ (kq : Nat) (x27_6 : Bool), v27 = .bool x27_6 ∧ Aside0 (hearsayref02_CheckAtom.j0 kq x27_6 a0_0 a0_1 a0_2 a0_3 l0_4 = some r) ∧ Aside0 (kq ≤ k) ∧ Aside0 (wc.heap[gb646]? = some (.cells #[.int .i64 a0_0, .int .i64 a0_1, .string a0_2, .string a0_3, (.slice A0_4 l0_4.length c0_4)] 26 (0, 0))) ∧ Aside0 (Below w.heap.size w wc))
      case first =>
        have H := HC7.out
        clear HC7
        by_cases c10 : a0_0 = 0
        · rw [if_pos c10] at H
          have c10b0 : (a0_0 == 0) = true := beq_iff_eq.mpr c10
          have c10b1 : (a0_0 != 0) = false := bne_eq_false_iff_eq.mpr c10
          clear c10
          (first | rw [c10b0] | (simp only [i64_w, i32_w]; rw [c10b0]) | skip)
          by_cases c11 : a0_1 = 0
          · rw [if_pos c11] at H
            have c11b0 : (a0_1 == 0) = true := beq_iff_eq.mpr c11
            have c11b1 : (a0_1 != 0) = false := bne_eq_false_iff_eq.mpr c11
            clear c11
            by_cases c12 : a0_2.toList = ([] : List UInt8)
            · rw [if_pos c12] at H
              have c12b0 : (a0_2.toList == ([] : List UInt8)) = true := beq_iff_eq.mpr c12
              have c12b1 : (a0_2.toList != ([] : List UInt8)) = false := bne_eq_false_iff_eq.mpr c12
              clear c12
              have H' := Aside0.mk H
              clear H
              have hcz13_0 : w8.cell? ⟨gb646, 0, none⟩ = some (.int .i64 a0_0) := (blk_cell BK646.out 0).trans rfl
              have hcz13_1 : w8.cell? ⟨gb646, 1, none⟩ = some (.int .i64 a0_1) := (blk_cell BK646.out 1).trans rfl
              have hcz13_2 : w8.cell? ⟨gb646, 2, none⟩ = some (.string a0_2) := (blk_cell BK646.out 2).trans rfl
              have hcz13_3 : w8.cell? ⟨gb646, 3, none⟩ = some (.string a0_3) := (blk_cell BK646.out 3).trans rfl
              have hcz13_4 : w8.cell? ⟨gb646, 4, none⟩ = some (.slice A0_4 l0_4.length c0_4) := (blk_cell BK646.out 4).trans rfl
              have hfz13_0 := blk_frozen BK646.out 0
              have hfz13_1 := blk_frozen BK646.out 1
              have hfz13_2 := blk_frozen BK646.out 2
              have hfz13_3 := blk_frozen BK646.out 3
              have hfz13_4 := blk_frozen BK646.out 4
              go_wp2
              go_meet
              case rel => exact ⟨_, (false), (by first | rfl | (simp; done) | (simp [*]; done)), H', ⟨by first | omega | exact Nat.le_refl _⟩, ⟨by (with_reducible repeat (first | refine blk_drewN ?_ _ | refine blk_drew ?_ | refine blk_alloc ?_ _)); exact BK646.out⟩, ⟨by repeat (first | (with_reducible first | exact HB.out | apply below_alloc | apply pw_below_drewN | apply below_drew1 | refine below_set ?_ GE646.out) | exact HB.out)⟩⟩
            · rw [if_neg c12] at H
              have c12b0 : (a0_2.toList == ([] : List UInt8)) = false := beq_eq_false_iff_ne.mpr c12
              have c12b1 : (a0_2.toList != ([] : List UInt8)) = true := bne_iff_ne.mpr c12
              replace H := Option.bind_eq_some_iff.mp H
              obtain ⟨t648, A140, H⟩ := H
              replace H : (if t648 = true then (hearsayref02_CheckAtom.j0 k false a0_0 a0_1 a0_2 a0_3 l0_4) else ((hearsayref02_Variable.f a0_0 a0_1 a0_2).bind fun t649 => (hearsayref02_CheckAtom.j0 k (!t649) a0_0 a0_1 a0_2 a0_3 l0_4))) = some r := H
              have A14 := Aside0.mk A140
              clear A140
              by_cases c15 : t648 = true
              · subst c15
                have H1 : (hearsayref02_CheckAtom.j0 k false a0_0 a0_1 a0_2 a0_3 l0_4) = some r := by rw [if_pos rfl] at H; exact H
                clear H
                have H := H1
                clear H1
                have H' := Aside0.mk H
                clear H
                have hcz16_0 : w8.cell? ⟨gb646, 0, none⟩ = some (.int .i64 a0_0) := (blk_cell BK646.out 0).trans rfl
                have hcz16_1 : w8.cell? ⟨gb646, 1, none⟩ = some (.int .i64 a0_1) := (blk_cell BK646.out 1).trans rfl
                have hcz16_2 : w8.cell? ⟨gb646, 2, none⟩ = some (.string a0_2) := (blk_cell BK646.out 2).trans rfl
                have hcz16_3 : w8.cell? ⟨gb646, 3, none⟩ = some (.string a0_3) := (blk_cell BK646.out 3).trans rfl
                have hcz16_4 : w8.cell? ⟨gb646, 4, none⟩ = some (.slice A0_4 l0_4.length c0_4) := (blk_cell BK646.out 4).trans rfl
                have hfz16_0 := blk_frozen BK646.out 0
                have hfz16_1 := blk_frozen BK646.out 1
                have hfz16_2 := blk_frozen BK646.out 2
                have hfz16_3 := blk_frozen BK646.out 3
                have hfz16_4 := blk_frozen BK646.out 4
                go_wp2_with (first | (go_at_call 64; (with_reducible refine (hearsayref02_Principal.calls a0_0 a0_1 a0_2 true _ A14.out).mono ?_); rintro e w17 ⟨rfl, hb⟩; have n0_ := Aside0.mk (blk_below (g := gb646) (o := .cells #[.int .i64 a0_0, .int .i64 a0_1, .string a0_2, .string a0_3, .slice A0_4 l0_4.length c0_4] 26 (0, 0)) (by (with_reducible repeat (first | refine blk_drewN ?_ _ | refine blk_drew ?_ | refine blk_alloc ?_ _)); exact BK646.out) hb); have n1_ := Aside0.mk (below_step (by repeat (first | (with_reducible first | exact HB.out | apply below_alloc | apply pw_below_drewN | apply below_drew1 | refine below_set ?_ GE646.out) | exact HB.out)) hb); clear BK646; clear HB; have BK646 := n0_; have HB := n1_; clear n0_ n1_; (try clear hb); (try clear hb2); (try clear hk); (try clear hi)))
                go_meet
                case rel => exact ⟨_, (false), (by first | rfl | (simp; done) | (simp [*]; done)), H', ⟨by first | omega | exact Nat.le_refl _⟩, ⟨by (with_reducible repeat (first | refine blk_drewN ?_ _ | refine blk_drew ?_ | refine blk_alloc ?_ _)); exact BK646.out⟩, ⟨by repeat (first | (with_reducible first | exact HB.out | apply below_alloc | apply pw_below_drewN | apply below_drew1 | refine below_set ?_ GE646.out) | exact HB.out)⟩⟩
              · replace c15 := Bool.eq_false_iff.mpr c15
                subst c15
                have H1 : ((hearsayref02_Variable.f a0_0 a0_1 a0_2).bind fun t649 => (hearsayref02_CheckAtom.j0 k (!t649) a0_0 a0_1 a0_2 a0_3 l0_4)) = some r := by rw [if_neg (show ¬ (false = true) by decide)] at H; exact H
                clear H
                have H := H1
                clear H1
                replace H := Option.bind_eq_some_iff.mp H
                obtain ⟨t649, A180, H⟩ := H
                replace H : (hearsayref02_CheckAtom.j0 k (!t649) a0_0 a0_1 a0_2 a0_3 l0_4) = some r := H
                have A18 := Aside0.mk A180
                clear A180
                have H' := Aside0.mk H
                clear H
                have hcz19_0 : w8.cell? ⟨gb646, 0, none⟩ = some (.int .i64 a0_0) := (blk_cell BK646.out 0).trans rfl
                have hcz19_1 : w8.cell? ⟨gb646, 1, none⟩ = some (.int .i64 a0_1) := (blk_cell BK646.out 1).trans rfl
                have hcz19_2 : w8.cell? ⟨gb646, 2, none⟩ = some (.string a0_2) := (blk_cell BK646.out 2).trans rfl
                have hcz19_3 : w8.cell? ⟨gb646, 3, none⟩ = some (.string a0_3) := (blk_cell BK646.out 3).trans rfl
                have hcz19_4 : w8.cell? ⟨gb646, 4, none⟩ = some (.slice A0_4 l0_4.length c0_4) := (blk_cell BK646.out 4).trans rfl
                have hfz19_0 := blk_frozen BK646.out 0
                have hfz19_1 := blk_frozen BK646.out 1
                have hfz19_2 := blk_frozen BK646.out 2
                have hfz19_3 := blk_frozen BK646.out 3
                have hfz19_4 := blk_frozen BK646.out 4
                go_wp2_with (first | (go_at_call 64; (with_reducible refine (hearsayref02_Principal.calls a0_0 a0_1 a0_2 false _ A14.out).mono ?_); rintro e w20 ⟨rfl, hb⟩; have n0_ := Aside0.mk (blk_below (g := gb646) (o := .cells #[.int .i64 a0_0, .int .i64 a0_1, .string a0_2, .string a0_3, .slice A0_4 l0_4.length c0_4] 26 (0, 0)) (by (with_reducible repeat (first | refine blk_drewN ?_ _ | refine blk_drew ?_ | refine blk_alloc ?_ _)); exact BK646.out) hb); have n1_ := Aside0.mk (below_step (by repeat (first | (with_reducible first | exact HB.out | apply below_alloc | apply pw_below_drewN | apply below_drew1 | refine below_set ?_ GE646.out) | exact HB.out)) hb); clear BK646; clear HB; have BK646 := n0_; have HB := n1_; clear n0_ n1_; (try clear hb); (try clear hb2); (try clear hk); (try clear hi); have hcz21_0 : w20.cell? ⟨gb646, 0, none⟩ = some (.int .i64 a0_0) := (blk_cell BK646.out 0).trans rfl; have hcz21_1 : w20.cell? ⟨gb646, 1, none⟩ = some (.int .i64 a0_1) := (blk_cell BK646.out 1).trans rfl; have hcz21_2 : w20.cell? ⟨gb646, 2, none⟩ = some (.string a0_2) := (blk_cell BK646.out 2).trans rfl; have hcz21_3 : w20.cell? ⟨gb646, 3, none⟩ = some (.string a0_3) := (blk_cell BK646.out 3).trans rfl; have hcz21_4 : w20.cell? ⟨gb646, 4, none⟩ = some (.slice A0_4 l0_4.length c0_4) := (blk_cell BK646.out 4).trans rfl; have hfz21_0 := blk_frozen BK646.out 0; have hfz21_1 := blk_frozen BK646.out 1; have hfz21_2 := blk_frozen BK646.out 2; have hfz21_3 := blk_frozen BK646.out 3; have hfz21_4 := blk_frozen BK646.out 4) | (go_at_call 52; (with_reducible refine (hearsayref02_Variable.calls a0_0 a0_1 a0_2 t649 _ A18.out).mono ?_); rintro e w22 ⟨rfl, hb⟩; have n0_ := Aside0.mk (blk_below (g := gb646) (o := .cells #[.int .i64 a0_0, .int .i64 a0_1, .string a0_2, .string a0_3, .slice A0_4 l0_4.length c0_4] 26 (0, 0)) (by (with_reducible repeat (first | refine blk_drewN ?_ _ | refine blk_drew ?_ | refine blk_alloc ?_ _)); exact BK646.out) hb); have n1_ := Aside0.mk (below_step (by repeat (first | (with_reducible first | exact HB.out | apply below_alloc | apply pw_below_drewN | apply below_drew1 | refine below_set ?_ GE646.out) | exact HB.out)) hb); clear BK646; clear HB; have BK646 := n0_; have HB := n1_; clear n0_ n1_; (try clear hb); (try clear hb2); (try clear hk); (try clear hi)))
                go_meet
                case rel => exact ⟨_, (!t649), (by first | rfl | (simp; done) | (simp [*]; done)), H', ⟨by first | omega | exact Nat.le_refl _⟩, ⟨by (with_reducible repeat (first | refine blk_drewN ?_ _ | refine blk_drew ?_ | refine blk_alloc ?_ _)); exact BK646.out⟩, ⟨by repeat (first | (with_reducible first | exact HB.out | apply below_alloc | apply pw_below_drewN | apply below_drew1 | refine below_set ?_ GE646.out) | exact HB.out)⟩⟩
          · rw [if_neg c11] at H
            have c11b0 : (a0_1 == 0) = false := beq_eq_false_iff_ne.mpr c11
            have c11b1 : (a0_1 != 0) = true := bne_iff_ne.mpr c11
            replace H := Option.bind_eq_some_iff.mp H
            obtain ⟨t650, A230, H⟩ := H
            replace H : (if t650 = true then (hearsayref02_CheckAtom.j0 k false a0_0 a0_1 a0_2 a0_3 l0_4) else ((hearsayref02_Variable.f a0_0 a0_1 a0_2).bind fun t651 => (hearsayref02_CheckAtom.j0 k (!t651) a0_0 a0_1 a0_2 a0_3 l0_4))) = some r := H
            have A23 := Aside0.mk A230
            clear A230
            by_cases c24 : t650 = true
            · subst c24
              have H1 : (hearsayref02_CheckAtom.j0 k false a0_0 a0_1 a0_2 a0_3 l0_4) = some r := by rw [if_pos rfl] at H; exact H
              clear H
              have H := H1
              clear H1
              have H' := Aside0.mk H
              clear H
              have hcz25_0 : w8.cell? ⟨gb646, 0, none⟩ = some (.int .i64 a0_0) := (blk_cell BK646.out 0).trans rfl
              have hcz25_1 : w8.cell? ⟨gb646, 1, none⟩ = some (.int .i64 a0_1) := (blk_cell BK646.out 1).trans rfl
              have hcz25_2 : w8.cell? ⟨gb646, 2, none⟩ = some (.string a0_2) := (blk_cell BK646.out 2).trans rfl
              have hcz25_3 : w8.cell? ⟨gb646, 3, none⟩ = some (.string a0_3) := (blk_cell BK646.out 3).trans rfl
              have hcz25_4 : w8.cell? ⟨gb646, 4, none⟩ = some (.slice A0_4 l0_4.length c0_4) := (blk_cell BK646.out 4).trans rfl
              have hfz25_0 := blk_frozen BK646.out 0
              have hfz25_1 := blk_frozen BK646.out 1
              have hfz25_2 := blk_frozen BK646.out 2
              have hfz25_3 := blk_frozen BK646.out 3
              have hfz25_4 := blk_frozen BK646.out 4
              go_wp2_with (first | (go_at_call 64; (with_reducible refine (hearsayref02_Principal.calls a0_0 a0_1 a0_2 true _ A23.out).mono ?_); rintro e w26 ⟨rfl, hb⟩; have n0_ := Aside0.mk (blk_below (g := gb646) (o := .cells #[.int .i64 a0_0, .int .i64 a0_1, .string a0_2, .string a0_3, .slice A0_4 l0_4.length c0_4] 26 (0, 0)) (by (with_reducible repeat (first | refine blk_drewN ?_ _ | refine blk_drew ?_ | refine blk_alloc ?_ _)); exact BK646.out) hb); have n1_ := Aside0.mk (below_step (by repeat (first | (with_reducible first | exact HB.out | apply below_alloc | apply pw_below_drewN | apply below_drew1 | refine below_set ?_ GE646.out) | exact HB.out)) hb); clear BK646; clear HB; have BK646 := n0_; have HB := n1_; clear n0_ n1_; (try clear hb); (try clear hb2); (try clear hk); (try clear hi)))
              go_meet
              case rel => exact ⟨_, (false), (by first | rfl | (simp; done) | (simp [*]; done)), H', ⟨by first | omega | exact Nat.le_refl _⟩, ⟨by (with_reducible repeat (first | refine blk_drewN ?_ _ | refine blk_drew ?_ | refine blk_alloc ?_ _)); exact BK646.out⟩, ⟨by repeat (first | (with_reducible first | exact HB.out | apply below_alloc | apply pw_below_drewN | apply below_drew1 | refine below_set ?_ GE646.out) | exact HB.out)⟩⟩
            · replace c24 := Bool.eq_false_iff.mpr c24
              subst c24
              have H1 : ((hearsayref02_Variable.f a0_0 a0_1 a0_2).bind fun t651 => (hearsayref02_CheckAtom.j0 k (!t651) a0_0 a0_1 a0_2 a0_3 l0_4)) = some r := by rw [if_neg (show ¬ (false = true) by decide)] at H; exact H
              clear H
              have H := H1
              clear H1
              replace H := Option.bind_eq_some_iff.mp H
              obtain ⟨t651, A270, H⟩ := H
              replace H : (hearsayref02_CheckAtom.j0 k (!t651) a0_0 a0_1 a0_2 a0_3 l0_4) = some r := H
              have A27 := Aside0.mk A270
              clear A270
              have H' := Aside0.mk H
              clear H
              have hcz28_0 : w8.cell? ⟨gb646, 0, none⟩ = some (.int .i64 a0_0) := (blk_cell BK646.out 0).trans rfl
              have hcz28_1 : w8.cell? ⟨gb646, 1, none⟩ = some (.int .i64 a0_1) := (blk_cell BK646.out 1).trans rfl
              have hcz28_2 : w8.cell? ⟨gb646, 2, none⟩ = some (.string a0_2) := (blk_cell BK646.out 2).trans rfl
              have hcz28_3 : w8.cell? ⟨gb646, 3, none⟩ = some (.string a0_3) := (blk_cell BK646.out 3).trans rfl
              have hcz28_4 : w8.cell? ⟨gb646, 4, none⟩ = some (.slice A0_4 l0_4.length c0_4) := (blk_cell BK646.out 4).trans rfl
              have hfz28_0 := blk_frozen BK646.out 0
              have hfz28_1 := blk_frozen BK646.out 1
              have hfz28_2 := blk_frozen BK646.out 2
              have hfz28_3 := blk_frozen BK646.out 3
              have hfz28_4 := blk_frozen BK646.out 4
              go_wp2_with (first | (go_at_call 64; (with_reducible refine (hearsayref02_Principal.calls a0_0 a0_1 a0_2 false _ A23.out).mono ?_); rintro e w29 ⟨rfl, hb⟩; have n0_ := Aside0.mk (blk_below (g := gb646) (o := .cells #[.int .i64 a0_0, .int .i64 a0_1, .string a0_2, .string a0_3, .slice A0_4 l0_4.length c0_4] 26 (0, 0)) (by (with_reducible repeat (first | refine blk_drewN ?_ _ | refine blk_drew ?_ | refine blk_alloc ?_ _)); exact BK646.out) hb); have n1_ := Aside0.mk (below_step (by repeat (first | (with_reducible first | exact HB.out | apply below_alloc | apply pw_below_drewN | apply below_drew1 | refine below_set ?_ GE646.out) | exact HB.out)) hb); clear BK646; clear HB; have BK646 := n0_; have HB := n1_; clear n0_ n1_; (try clear hb); (try clear hb2); (try clear hk); (try clear hi); have hcz30_0 : w29.cell? ⟨gb646, 0, none⟩ = some (.int .i64 a0_0) := (blk_cell BK646.out 0).trans rfl; have hcz30_1 : w29.cell? ⟨gb646, 1, none⟩ = some (.int .i64 a0_1) := (blk_cell BK646.out 1).trans rfl; have hcz30_2 : w29.cell? ⟨gb646, 2, none⟩ = some (.string a0_2) := (blk_cell BK646.out 2).trans rfl; have hcz30_3 : w29.cell? ⟨gb646, 3, none⟩ = some (.string a0_3) := (blk_cell BK646.out 3).trans rfl; have hcz30_4 : w29.cell? ⟨gb646, 4, none⟩ = some (.slice A0_4 l0_4.length c0_4) := (blk_cell BK646.out 4).trans rfl; have hfz30_0 := blk_frozen BK646.out 0; have hfz30_1 := blk_frozen BK646.out 1; have hfz30_2 := blk_frozen BK646.out 2; have hfz30_3 := blk_frozen BK646.out 3; have hfz30_4 := blk_frozen BK646.out 4) | (go_at_call 52; (with_reducible refine (hearsayref02_Variable.calls a0_0 a0_1 a0_2 t651 _ A27.out).mono ?_); rintro e w31 ⟨rfl, hb⟩; have n0_ := Aside0.mk (blk_below (g := gb646) (o := .cells #[.int .i64 a0_0, .int .i64 a0_1, .string a0_2, .string a0_3, .slice A0_4 l0_4.length c0_4] 26 (0, 0)) (by (with_reducible repeat (first | refine blk_drewN ?_ _ | refine blk_drew ?_ | refine blk_alloc ?_ _)); exact BK646.out) hb); have n1_ := Aside0.mk (below_step (by repeat (first | (with_reducible first | exact HB.out | apply below_alloc | apply pw_below_drewN | apply below_drew1 | refine below_set ?_ GE646.out) | exact HB.out)) hb); clear BK646; clear HB; have BK646 := n0_; have HB := n1_; clear n0_ n1_; (try clear hb); (try clear hb2); (try clear hk); (try clear hi)))
              go_meet
              case rel => exact ⟨_, (!t651), (by first | rfl | (simp; done) | (simp [*]; done)), H', ⟨by first | omega | exact Nat.le_refl _⟩, ⟨by (with_reducible repeat (first | refine blk_drewN ?_ _ | refine blk_drew ?_ | refine blk_alloc ?_ _)); exact BK646.out⟩, ⟨by repeat (first | (with_reducible first | exact HB.out | apply below_alloc | apply pw_below_drewN | apply below_drew1 | refine below_set ?_ GE646.out) | exact HB.out)⟩⟩
        · rw [if_neg c10] at H
          have c10b0 : (a0_0 == 0) = false := beq_eq_false_iff_ne.mpr c10
          have c10b1 : (a0_0 != 0) = true := bne_iff_ne.mpr c10
          (first | rw [c10b0] | (simp only [i64_w, i32_w]; rw [c10b0]) | skip)
          replace H := Option.bind_eq_some_iff.mp H
          obtain ⟨t652, A320, H⟩ := H
          replace H : (if t652 = true then (hearsayref02_CheckAtom.j0 k false a0_0 a0_1 a0_2 a0_3 l0_4) else ((hearsayref02_Variable.f a0_0 a0_1 a0_2).bind fun t653 => (hearsayref02_CheckAtom.j0 k (!t653) a0_0 a0_1 a0_2 a0_3 l0_4))) = some r := H
          have A32 := Aside0.mk A320
          clear A320
          by_cases c33 : t652 = true
          · subst c33
            have H1 : (hearsayref02_CheckAtom.j0 k false a0_0 a0_1 a0_2 a0_3 l0_4) = some r := by rw [if_pos rfl] at H; exact H
            clear H
            have H := H1
            clear H1
            have H' := Aside0.mk H
            clear H
            have hcz34_0 : w8.cell? ⟨gb646, 0, none⟩ = some (.int .i64 a0_0) := (blk_cell BK646.out 0).trans rfl
            have hcz34_1 : w8.cell? ⟨gb646, 1, none⟩ = some (.int .i64 a0_1) := (blk_cell BK646.out 1).trans rfl
            have hcz34_2 : w8.cell? ⟨gb646, 2, none⟩ = some (.string a0_2) := (blk_cell BK646.out 2).trans rfl
            have hcz34_3 : w8.cell? ⟨gb646, 3, none⟩ = some (.string a0_3) := (blk_cell BK646.out 3).trans rfl
            have hcz34_4 : w8.cell? ⟨gb646, 4, none⟩ = some (.slice A0_4 l0_4.length c0_4) := (blk_cell BK646.out 4).trans rfl
            have hfz34_0 := blk_frozen BK646.out 0
            have hfz34_1 := blk_frozen BK646.out 1
            have hfz34_2 := blk_frozen BK646.out 2
            have hfz34_3 := blk_frozen BK646.out 3
            have hfz34_4 := blk_frozen BK646.out 4
            go_wp2_with (first | (go_at_call 64; (with_reducible refine (hearsayref02_Principal.calls a0_0 a0_1 a0_2 true _ A32.out).mono ?_); rintro e w35 ⟨rfl, hb⟩; have n0_ := Aside0.mk (blk_below (g := gb646) (o := .cells #[.int .i64 a0_0, .int .i64 a0_1, .string a0_2, .string a0_3, .slice A0_4 l0_4.length c0_4] 26 (0, 0)) (by (with_reducible repeat (first | refine blk_drewN ?_ _ | refine blk_drew ?_ | refine blk_alloc ?_ _)); exact BK646.out) hb); have n1_ := Aside0.mk (below_step (by repeat (first | (with_reducible first | exact HB.out | apply below_alloc | apply pw_below_drewN | apply below_drew1 | refine below_set ?_ GE646.out) | exact HB.out)) hb); clear BK646; clear HB; have BK646 := n0_; have HB := n1_; clear n0_ n1_; (try clear hb); (try clear hb2); (try clear hk); (try clear hi)))
            go_meet
            case rel => exact ⟨_, (false), (by first | rfl | (simp; done) | (simp [*]; done)), H', ⟨by first | omega | exact Nat.le_refl _⟩, ⟨by (with_reducible repeat (first | refine blk_drewN ?_ _ | refine blk_drew ?_ | refine blk_alloc ?_ _)); exact BK646.out⟩, ⟨by repeat (first | (with_reducible first | exact HB.out | apply below_alloc | apply pw_below_drewN | apply below_drew1 | refine below_set ?_ GE646.out) | exact HB.out)⟩⟩
          · replace c33 := Bool.eq_false_iff.mpr c33
            subst c33
            have H1 : ((hearsayref02_Variable.f a0_0 a0_1 a0_2).bind fun t653 => (hearsayref02_CheckAtom.j0 k (!t653) a0_0 a0_1 a0_2 a0_3 l0_4)) = some r := by rw [if_neg (show ¬ (false = true) by decide)] at H; exact H
            clear H
            have H := H1
            clear H1
            replace H := Option.bind_eq_some_iff.mp H
            obtain ⟨t653, A360, H⟩ := H
            replace H : (hearsayref02_CheckAtom.j0 k (!t653) a0_0 a0_1 a0_2 a0_3 l0_4) = some r := H
            have A36 := Aside0.mk A360
            clear A360
            have H' := Aside0.mk H
            clear H
            have hcz37_0 : w8.cell? ⟨gb646, 0, none⟩ = some (.int .i64 a0_0) := (blk_cell BK646.out 0).trans rfl
            have hcz37_1 : w8.cell? ⟨gb646, 1, none⟩ = some (.int .i64 a0_1) := (blk_cell BK646.out 1).trans rfl
            have hcz37_2 : w8.cell? ⟨gb646, 2, none⟩ = some (.string a0_2) := (blk_cell BK646.out 2).trans rfl
            have hcz37_3 : w8.cell? ⟨gb646, 3, none⟩ = some (.string a0_3) := (blk_cell BK646.out 3).trans rfl
            have hcz37_4 : w8.cell? ⟨gb646, 4, none⟩ = some (.slice A0_4 l0_4.length c0_4) := (blk_cell BK646.out 4).trans rfl
            have hfz37_0 := blk_frozen BK646.out 0
            have hfz37_1 := blk_frozen BK646.out 1
            have hfz37_2 := blk_frozen BK646.out 2
            have hfz37_3 := blk_frozen BK646.out 3
            have hfz37_4 := blk_frozen BK646.out 4
            go_wp2_with (first | (go_at_call 64; (with_reducible refine (hearsayref02_Principal.calls a0_0 a0_1 a0_2 false _ A32.out).mono ?_); rintro e w38 ⟨rfl, hb⟩; have n0_ := Aside0.mk (blk_below (g := gb646) (o := .cells #[.int .i64 a0_0, .int .i64 a0_1, .string a0_2, .string a0_3, .slice A0_4 l0_4.length c0_4] 26 (0, 0)) (by (with_reducible repeat (first | refine blk_drewN ?_ _ | refine blk_drew ?_ | refine blk_alloc ?_ _)); exact BK646.out) hb); have n1_ := Aside0.mk (below_step (by repeat (first | (with_reducible first | exact HB.out | apply below_alloc | apply pw_below_drewN | apply below_drew1 | refine below_set ?_ GE646.out) | exact HB.out)) hb); clear BK646; clear HB; have BK646 := n0_; have HB := n1_; clear n0_ n1_; (try clear hb); (try clear hb2); (try clear hk); (try clear hi); have hcz39_0 : w38.cell? ⟨gb646, 0, none⟩ = some (.int .i64 a0_0) := (blk_cell BK646.out 0).trans rfl; have hcz39_1 : w38.cell? ⟨gb646, 1, none⟩ = some (.int .i64 a0_1) := (blk_cell BK646.out 1).trans rfl; have hcz39_2 : w38.cell? ⟨gb646, 2, none⟩ = some (.string a0_2) := (blk_cell BK646.out 2).trans rfl; have hcz39_3 : w38.cell? ⟨gb646, 3, none⟩ = some (.string a0_3) := (blk_cell BK646.out 3).trans rfl; have hcz39_4 : w38.cell? ⟨gb646, 4, none⟩ = some (.slice A0_4 l0_4.length c0_4) := (blk_cell BK646.out 4).trans rfl; have hfz39_0 := blk_frozen BK646.out 0; have hfz39_1 := blk_frozen BK646.out 1; have hfz39_2 := blk_frozen BK646.out 2; have hfz39_3 := blk_frozen BK646.out 3; have hfz39_4 := blk_frozen BK646.out 4) | (go_at_call 52; (with_reducible refine (hearsayref02_Variable.calls a0_0 a0_1 a0_2 t653 _ A36.out).mono ?_); rintro e w40 ⟨rfl, hb⟩; have n0_ := Aside0.mk (blk_below (g := gb646) (o := .cells #[.int .i64 a0_0, .int .i64 a0_1, .string a0_2, .string a0_3, .slice A0_4 l0_4.length c0_4] 26 (0, 0)) (by (with_reducible repeat (first | refine blk_drewN ?_ _ | refine blk_drew ?_ | refine blk_alloc ?_ _)); exact BK646.out) hb); have n1_ := Aside0.mk (below_step (by repeat (first | (with_reducible first | exact HB.out | apply below_alloc | apply pw_below_drewN | apply below_drew1 | refine below_set ?_ GE646.out) | exact HB.out)) hb); clear BK646; clear HB; have BK646 := n0_; have HB := n1_; clear n0_ n1_; (try clear hb); (try clear hb2); (try clear hk); (try clear hi)))
            go_meet
            case rel => exact ⟨_, (!t653), (by first | rfl | (simp; done) | (simp [*]; done)), H', ⟨by first | omega | exact Nat.le_refl _⟩, ⟨by (with_reducible repeat (first | refine blk_drewN ?_ _ | refine blk_drew ?_ | refine blk_alloc ?_ _)); exact BK646.out⟩, ⟨by repeat (first | (with_reducible first | exact HB.out | apply below_alloc | apply pw_below_drewN | apply below_drew1 | refine below_set ?_ GE646.out) | exact HB.out)⟩⟩
      case rest =>
        clear HC7
        try clear c1
        try clear c2
        try clear p2
        try clear c3
        try clear c4
        try clear c4b0
        try clear c4b1
        try clear c7
        try clear c10
        try clear c10b0
        try clear c10b1
        try clear c11
        try clear c11b0
        try clear c11b1
        try clear c12
        try clear c12b0
        try clear c12b1
        try clear c15
        try clear c24
        try clear c33
        try clear c40
        try clear hcz13_0
        try clear hcz13_1
        try clear hcz13_2
        try clear hcz13_3
        try clear hcz13_4
        try clear hcz16_0
        try clear hcz16_1
        try clear hcz16_2
        try clear hcz16_3
        try clear hcz16_4
        try clear hcz19_0
        try clear hcz19_1
        try clear hcz19_2
        try clear hcz19_3
        try clear hcz19_4
        try clear hcz21_0
        try clear hcz21_1
        try clear hcz21_2
        try clear hcz21_3
        try clear hcz21_4
        try clear hcz25_0
        try clear hcz25_1
        try clear hcz25_2
        try clear hcz25_3
        try clear hcz25_4
        try clear hcz28_0
        try clear hcz28_1
        try clear hcz28_2
        try clear hcz28_3
        try clear hcz28_4
        try clear hcz30_0
        try clear hcz30_1
        try clear hcz30_2
        try clear hcz30_3
        try clear hcz30_4
        try clear hcz34_0
        try clear hcz34_1
        try clear hcz34_2
        try clear hcz34_3
        try clear hcz34_4
        try clear hcz37_0
        try clear hcz37_1
        try clear hcz37_2
        try clear hcz37_3
        try clear hcz37_4
        try clear hcz39_0
        try clear hcz39_1
        try clear hcz39_2
        try clear hcz39_3
        try clear hcz39_4
        try clear hcz6_0
        try clear hcz6_1
        try clear hcz6_2
        try clear hcz6_3
        try clear hcz6_4
        try clear hcz9_0
        try clear hcz9_1
        try clear hcz9_2
        try clear hcz9_3
        try clear hcz9_4
        try clear hfz13_0
        try clear hfz13_1
        try clear hfz13_2
        try clear hfz13_3
        try clear hfz13_4
        try clear hfz16_0
        try clear hfz16_1
        try clear hfz16_2
        try clear hfz16_3
        try clear hfz16_4
        try clear hfz19_0
        try clear hfz19_1
        try clear hfz19_2
        try clear hfz19_3
        try clear hfz19_4
        try clear hfz21_0
        try clear hfz21_1
        try clear hfz21_2
        try clear hfz21_3
        try clear hfz21_4
        try clear hfz25_0
        try clear hfz25_1
        try clear hfz25_2
        try clear hfz25_3
        try clear hfz25_4
        try clear hfz28_0
        try clear hfz28_1
        try clear hfz28_2
        try clear hfz28_3
        try clear hfz28_4
        try clear hfz30_0
        try clear hfz30_1
        try clear hfz30_2
        try clear hfz30_3
        try clear hfz30_4
        try clear hfz34_0
        try clear hfz34_1
        try clear hfz34_2
        try clear hfz34_3
        try clear hfz34_4
        try clear hfz37_0
        try clear hfz37_1
        try clear hfz37_2
        try clear hfz37_3
        try clear hfz37_4
        try clear hfz39_0
        try clear hfz39_1
        try clear hfz39_2
        try clear hfz39_3
        try clear hfz39_4
        try clear hfz6_0
        try clear hfz6_1
        try clear hfz6_2
        try clear hfz6_3
        try clear hfz6_4
        try clear hfz9_0
        try clear hfz9_1
        try clear hfz9_2
        try clear hfz9_3
        try clear hfz9_4
        obtain ⟨kq, x27_6, rfl, HA, HJ6, BK646, HB⟩ := hcut
        cases kq with
        | zero => exact absurd HA.out (by simp [hearsayref02_CheckAtom.j0])
        | succ kj6 =>
          have H := HA.out
          clear HA
          simp only [hearsayref02_CheckAtom.j0] at H
          by_cases c41 : x27_6 = true
          · subst c41
            have H1 : (some 23) = some r := by rw [if_pos rfl] at H; exact H
            clear H
            have H := H1
            clear H1
            obtain rfl := Option.some.inj H
            go_wp2
            go_ret
            exact ⟨by first | rfl | (simp [errW_none, errW_some] <;> rfl) | (simp [errW_none, errW_some, bne, show ∀ l_ : List UInt8, (l_ == []) = l_.isEmpty from fun l_ => by cases l_ <;> rfl]; done) | (simp [*, errW_none, errW_some] <;> rfl), by repeat (first | (with_reducible first | exact HB.out | apply below_alloc | apply pw_below_drewN | apply below_drew1 | refine below_set ?_ GE646.out) | exact HB.out)⟩
          · replace c41 := Bool.eq_false_iff.mpr c41
            subst c41
            have H1 : (hearsayref02_CheckAtom.l0 kj6 0 a0_0 a0_1 a0_2 a0_3 l0_4) = some r := by rw [if_neg (show ¬ (false = true) by decide)] at H; exact H
            clear H
            have H := H1
            clear H1
            have H' := Aside0.mk H
            clear H
            go_wp2
            go_loopg [3] kj6 (fun kq v3 w' => ∃ (x3_2 : Int), v3 = .int .i64 x3_2 ∧ Aside0 (hearsayref02_CheckAtom.l0 kq x3_2 a0_0 a0_1 a0_2 a0_3 l0_4 = some r) ∧ Aside0 (kq ≤ kj6) ∧ Aside0 (w'.heap[gb646]? = some (.cells #[.int .i64 a0_0, .int .i64 a0_1, .string a0_2, .string a0_3, (.slice A0_4 l0_4.length c0_4)] 26 (0, 0))) ∧ Aside0 (Below w.heap.size w w'))
            case atStart => exact ⟨(0), (by first | rfl | (simp; done) | (simp [*]; done)), H', ⟨Nat.le_refl _⟩, ⟨by (with_reducible repeat (first | refine blk_drewN ?_ _ | refine blk_drew ?_ | refine blk_alloc ?_ _)); exact BK646.out⟩, ⟨by repeat (first | (with_reducible first | exact HB.out | apply below_alloc | apply pw_below_drewN | apply below_drew1 | refine below_set ?_ GE646.out) | exact HB.out)⟩⟩
            case round =>
              clear H'
              try clear c1
              try clear c2
              try clear p2
              try clear c3
              try clear c4
              try clear c4b0
              try clear c4b1
              try clear c7
              try clear c10
              try clear c10b0
              try clear c10b1
              try clear c11
              try clear c11b0
              try clear c11b1
              try clear c12
              try clear c12b0
              try clear c12b1
              try clear c15
              try clear c24
              try clear c33
              try clear c40
              try clear c41
              try clear hcz13_0
              try clear hcz13_1
              try clear hcz13_2
              try clear hcz13_3
              try clear hcz13_4
              try clear hcz16_0
              try clear hcz16_1
              try clear hcz16_2
              try clear hcz16_3
              try clear hcz16_4
              try clear hcz19_0
              try clear hcz19_1
              try clear hcz19_2
              try clear hcz19_3
              try clear hcz19_4
              try clear hcz21_0
              try clear hcz21_1
              try clear hcz21_2
              try clear hcz21_3
              try clear hcz21_4
              try clear hcz25_0
              try clear hcz25_1
              try clear hcz25_2
              try clear hcz25_3
              try clear hcz25_4
              try clear hcz28_0
              try clear hcz28_1
              try clear hcz28_2
              try clear hcz28_3
              try clear hcz28_4
              try clear hcz30_0
              try clear hcz30_1
              try clear hcz30_2
              try clear hcz30_3
              try clear hcz30_4
              try clear hcz34_0
              try clear hcz34_1
              try clear hcz34_2
              try clear hcz34_3
              try clear hcz34_4
              try clear hcz37_0
              try clear hcz37_1
              try clear hcz37_2
              try clear hcz37_3
              try clear hcz37_4
              try clear hcz39_0
              try clear hcz39_1
              try clear hcz39_2
              try clear hcz39_3
              try clear hcz39_4
              try clear hcz6_0
              try clear hcz6_1
              try clear hcz6_2
              try clear hcz6_3
              try clear hcz6_4
              try clear hcz9_0
              try clear hcz9_1
              try clear hcz9_2
              try clear hcz9_3
              try clear hcz9_4
              try clear hfz13_0
              try clear hfz13_1
              try clear hfz13_2
              try clear hfz13_3
              try clear hfz13_4
              try clear hfz16_0
              try clear hfz16_1
              try clear hfz16_2
              try clear hfz16_3
              try clear hfz16_4
              try clear hfz19_0
              try clear hfz19_1
              try clear hfz19_2
              try clear hfz19_3
              try clear hfz19_4
              try clear hfz21_0
              try clear hfz21_1
              try clear hfz21_2
              try clear hfz21_3
              try clear hfz21_4
              try clear hfz25_0
              try clear hfz25_1
              try clear hfz25_2
              try clear hfz25_3
              try clear hfz25_4
              try clear hfz28_0
              try clear hfz28_1
              try clear hfz28_2
              try clear hfz28_3
              try clear hfz28_4
              try clear hfz30_0
              try clear hfz30_1
              try clear hfz30_2
              try clear hfz30_3
              try clear hfz30_4
              try clear hfz34_0
              try clear hfz34_1
              try clear hfz34_2
              try clear hfz34_3
              try clear hfz34_4
              try clear hfz37_0
              try clear hfz37_1
              try clear hfz37_2
              try clear hfz37_3
              try clear hfz37_4
              try clear hfz39_0
              try clear hfz39_1
              try clear hfz39_2
              try clear hfz39_3
              try clear hfz39_4
              try clear hfz6_0
              try clear hfz6_1
              try clear hfz6_2
              try clear hfz6_3
              try clear hfz6_4
              try clear hfz9_0
              try clear hfz9_1
              try clear hfz9_2
              try clear hfz9_3
              try clear hfz9_4
              try clear p2
              obtain ⟨x3_2, rfl, HA, HK2, BK646, HB⟩ := hrel
              cases gk with
              | zero => exact absurd HA.out (by simp [hearsayref02_CheckAtom.l0])
              | succ k2 =>
                have H := HA.out
                clear HA
                simp only [hearsayref02_CheckAtom.l0] at H
                by_cases c42 : x3_2 < (l0_4.length : Int)
                · rw [if_pos c42] at H
                  have c42b0 : decide (x3_2 < (l0_4.length : Int)) = true := decide_eq_true c42
                  clear c42
                  by_cases c43 : 0 ≤ x3_2
                  · rw [if_pos c43] at H
                    have c43b0 : decide (0 ≤ x3_2) = true := decide_eq_true c43
                    clear c43
                    replace H := Option.bind_eq_some_iff.mp H
                    obtain ⟨t655, A440, H⟩ := H
                    replace H : (if t655 = true then (hearsayref02_CheckAtom.l0 k2 (wrap64 (x3_2 + 1)) a0_0 a0_1 a0_2 a0_3 l0_4) else ((hearsayref02_Variable.f ((rd_T23 l0_4 x3_2).f0) ((rd_T23 l0_4 x3_2).f1) ((rd_T23 l0_4 x3_2).f2)).bind fun t657 => (if t657 = true then (hearsayref02_CheckAtom.l0 k2 (wrap64 (x3_2 + 1)) a0_0 a0_1 a0_2 a0_3 l0_4) else (some 24)))) = some r := H
                    have A44 := Aside0.mk A440
                    clear A440
                    by_cases c45 : t655 = true
                    · subst c45
                      have H1 : (hearsayref02_CheckAtom.l0 k2 (wrap64 (x3_2 + 1)) a0_0 a0_1 a0_2 a0_3 l0_4) = some r := by rw [if_pos rfl] at H; exact H
                      clear H
                      have H := H1
                      clear H1
                      have H' := Aside0.mk H
                      clear H
                      have hcz46_0 : wr.cell? ⟨gb646, 0, none⟩ = some (.int .i64 a0_0) := (blk_cell BK646.out 0).trans rfl
                      have hcz46_1 : wr.cell? ⟨gb646, 1, none⟩ = some (.int .i64 a0_1) := (blk_cell BK646.out 1).trans rfl
                      have hcz46_2 : wr.cell? ⟨gb646, 2, none⟩ = some (.string a0_2) := (blk_cell BK646.out 2).trans rfl
                      have hcz46_3 : wr.cell? ⟨gb646, 3, none⟩ = some (.string a0_3) := (blk_cell BK646.out 3).trans rfl
                      have hcz46_4 : wr.cell? ⟨gb646, 4, none⟩ = some (.slice A0_4 l0_4.length c0_4) := (blk_cell BK646.out 4).trans rfl
                      have hfz46_0 := blk_frozen BK646.out 0
                      have hfz46_1 := blk_frozen BK646.out 1
                      have hfz46_2 := blk_frozen BK646.out 2
                      have hfz46_3 := blk_frozen BK646.out 3
                      have hfz46_4 := blk_frozen BK646.out 4
                      have p654 : 0 ≤ (x3_2 : Int) := of_decide_eq_true (by first | (with_reducible assumption) | assumption)
                      have q654 : x3_2 < (l0_4.length : Int) := of_decide_eq_true (by first | (with_reducible assumption) | assumption)
                      obtain ⟨ad654, e654, hx654_0, hx654_1, hx654_2⟩ := at_T23 HR0_4.out x3_2 p654 q654
                      cases e654
                      replace hx654_0 := (HB.out.cell (World.block_lt_of_cell? w _ hx654_0)).trans hx654_0
                      replace hx654_1 := (HB.out.cell (World.block_lt_of_cell? w _ hx654_1)).trans hx654_1
                      replace hx654_2 := (HB.out.cell (World.block_lt_of_cell? w _ hx654_2)).trans hx654_2
                      replace p654 := eq_true p654
                      replace q654 := eq_true q654
                      go_wp2_with (first | ((with_reducible refine gate_callee (f := 66) rfl ?_); refine goesL_ (some 40) rfl rfl Tryd.func66 (by kernel_rfl) rfl #[.agg #[.int .i64 ((rd_T23 l0_4 x3_2).f0), .int .i64 ((rd_T23 l0_4 x3_2).f1), .string ((rd_T23 l0_4 x3_2).f2)]] rfl (by (try simp only [List.map_toArray, List.map_cons, List.map_nil]); first | done | rfl | (simp only [List.length_drop, List.length_take]; rfl)) ?_; (with_reducible refine (hearsayref02_Const.calls ((rd_T23 l0_4 x3_2).f0) ((rd_T23 l0_4 x3_2).f1) ((rd_T23 l0_4 x3_2).f2) true _ A44.out).mono ?_); rintro e w47 ⟨rfl, hb⟩; refine ⟨_, rfl, ?_⟩; have n0_ := Aside0.mk (blk_below (g := gb646) (o := .cells #[.int .i64 a0_0, .int .i64 a0_1, .string a0_2, .string a0_3, .slice (some ad654) l0_4.length c0_4] 26 (0, 0)) (by (with_reducible repeat (first | refine blk_drewN ?_ _ | refine blk_drew ?_ | refine blk_alloc ?_ _)); exact BK646.out) hb); have n1_ := Aside0.mk (below_step (by repeat (first | (with_reducible first | exact HB.out | apply below_alloc | apply pw_below_drewN | apply below_drew1 | refine below_set ?_ GE646.out) | exact HB.out)) hb); clear BK646; clear HB; have BK646 := n0_; have HB := n1_; clear n0_ n1_; (try clear hb); (try clear hb2); (try clear hk); (try clear hi)))
                      go_roundg k2
                      case measure => have := HJ6.out; have := HK2.out; omega
                      case rel => exact ⟨(wrap64 (x3_2 + 1)), (by first | rfl | (simp; done) | (simp [*]; done)), H', ⟨by have := HJ6.out; have := HK2.out; omega⟩, ⟨by (with_reducible repeat (first | refine blk_drewN ?_ _ | refine blk_drew ?_ | refine blk_alloc ?_ _)); exact BK646.out⟩, ⟨by repeat (first | (with_reducible first | exact HB.out | apply below_alloc | apply pw_below_drewN | apply below_drew1 | refine below_set ?_ GE646.out) | exact HB.out)⟩⟩
                    · replace c45 := Bool.eq_false_iff.mpr c45
                      subst c45
                      have H1 : ((hearsayref02_Variable.f ((rd_T23 l0_4 x3_2).f0) ((rd_T23 l0_4 x3_2).f1) ((rd_T23 l0_4 x3_2).f2)).bind fun t657 => (if t657 = true then (hearsayref02_CheckAtom.l0 k2 (wrap64 (x3_2 + 1)) a0_0 a0_1 a0_2 a0_3 l0_4) else (some 24))) = some r := by rw [if_neg (show ¬ (false = true) by decide)] at H; exact H
                      clear H
                      have H := H1
                      clear H1
                      replace H := Option.bind_eq_some_iff.mp H
                      obtain ⟨t657, A480, H⟩ := H
                      replace H : (if t657 = true then (hearsayref02_CheckAtom.l0 k2 (wrap64 (x3_2 + 1)) a0_0 a0_1 a0_2 a0_3 l0_4) else (some 24)) = some r := H
                      have A48 := Aside0.mk A480
                      clear A480
                      by_cases c49 : t657 = true
                      · subst c49
                        have H1 : (hearsayref02_CheckAtom.l0 k2 (wrap64 (x3_2 + 1)) a0_0 a0_1 a0_2 a0_3 l0_4) = some r := by rw [if_pos rfl] at H; exact H
                        clear H
                        have H := H1
                        clear H1
                        have H' := Aside0.mk H
                        clear H
                        have hcz50_0 : wr.cell? ⟨gb646, 0, none⟩ = some (.int .i64 a0_0) := (blk_cell BK646.out 0).trans rfl
                        have hcz50_1 : wr.cell? ⟨gb646, 1, none⟩ = some (.int .i64 a0_1) := (blk_cell BK646.out 1).trans rfl
                        have hcz50_2 : wr.cell? ⟨gb646, 2, none⟩ = some (.string a0_2) := (blk_cell BK646.out 2).trans rfl
                        have hcz50_3 : wr.cell? ⟨gb646, 3, none⟩ = some (.string a0_3) := (blk_cell BK646.out 3).trans rfl
                        have hcz50_4 : wr.cell? ⟨gb646, 4, none⟩ = some (.slice A0_4 l0_4.length c0_4) := (blk_cell BK646.out 4).trans rfl
                        have hfz50_0 := blk_frozen BK646.out 0
                        have hfz50_1 := blk_frozen BK646.out 1
                        have hfz50_2 := blk_frozen BK646.out 2
                        have hfz50_3 := blk_frozen BK646.out 3
                        have hfz50_4 := blk_frozen BK646.out 4
                        have p654 : 0 ≤ (x3_2 : Int) := of_decide_eq_true (by first | (with_reducible assumption) | assumption)
                        have q654 : x3_2 < (l0_4.length : Int) := of_decide_eq_true (by first | (with_reducible assumption) | assumption)
                        obtain ⟨ad654, e654, hx654_0, hx654_1, hx654_2⟩ := at_T23 HR0_4.out x3_2 p654 q654
                        cases e654
                        replace hx654_0 := (HB.out.cell (World.block_lt_of_cell? w _ hx654_0)).trans hx654_0
                        replace hx654_1 := (HB.out.cell (World.block_lt_of_cell? w _ hx654_1)).trans hx654_1
                        replace hx654_2 := (HB.out.cell (World.block_lt_of_cell? w _ hx654_2)).trans hx654_2
                        replace p654 := eq_true p654
                        replace q654 := eq_true q654
                        go_wp2_with (first | ((with_reducible refine gate_callee (f := 66) rfl ?_); refine goesL_ (some 40) rfl rfl Tryd.func66 (by kernel_rfl) rfl #[.agg #[.int .i64 ((rd_T23 l0_4 x3_2).f0), .int .i64 ((rd_T23 l0_4 x3_2).f1), .string ((rd_T23 l0_4 x3_2).f2)]] rfl (by (try simp only [List.map_toArray, List.map_cons, List.map_nil]); first | done | rfl | (simp only [List.length_drop, List.length_take]; rfl)) ?_; (with_reducible refine (hearsayref02_Const.calls ((rd_T23 l0_4 x3_2).f0) ((rd_T23 l0_4 x3_2).f1) ((rd_T23 l0_4 x3_2).f2) false _ A44.out).mono ?_); rintro e w51 ⟨rfl, hb⟩; refine ⟨_, rfl, ?_⟩; have n0_ := Aside0.mk (blk_below (g := gb646) (o := .cells #[.int .i64 a0_0, .int .i64 a0_1, .string a0_2, .string a0_3, .slice (some ad654) l0_4.length c0_4] 26 (0, 0)) (by (with_reducible repeat (first | refine blk_drewN ?_ _ | refine blk_drew ?_ | refine blk_alloc ?_ _)); exact BK646.out) hb); have n1_ := Aside0.mk (below_step (by repeat (first | (with_reducible first | exact HB.out | apply below_alloc | apply pw_below_drewN | apply below_drew1 | refine below_set ?_ GE646.out) | exact HB.out)) hb); clear BK646; clear HB; have BK646 := n0_; have HB := n1_; clear n0_ n1_; (try clear hb); (try clear hb2); (try clear hk); (try clear hi); have hcz52_0 : w51.cell? ⟨gb646, 0, none⟩ = some (.int .i64 a0_0) := (blk_cell BK646.out 0).trans rfl; have hcz52_1 : w51.cell? ⟨gb646, 1, none⟩ = some (.int .i64 a0_1) := (blk_cell BK646.out 1).trans rfl; have hcz52_2 : w51.cell? ⟨gb646, 2, none⟩ = some (.string a0_2) := (blk_cell BK646.out 2).trans rfl; have hcz52_3 : w51.cell? ⟨gb646, 3, none⟩ = some (.string a0_3) := (blk_cell BK646.out 3).trans rfl; have hcz52_4 : w51.cell? ⟨gb646, 4, none⟩ = some (.slice (some ad654) l0_4.length c0_4) := (blk_cell BK646.out 4).trans rfl; have hfz52_0 := blk_frozen BK646.out 0; have hfz52_1 := blk_frozen BK646.out 1; have hfz52_2 := blk_frozen BK646.out 2; have hfz52_3 := blk_frozen BK646.out 3; have hfz52_4 := blk_frozen BK646.out 4; have p656 : 0 ≤ (x3_2 : Int) := of_decide_eq_true (by first | (with_reducible assumption) | assumption); have q656 : x3_2 < (l0_4.length : Int) := of_decide_eq_true (by first | (with_reducible assumption) | assumption); obtain ⟨ad656, e656, hx656_0, hx656_1, hx656_2⟩ := at_T23 HR0_4.out x3_2 p656 q656; obtain rfl : ad654 = ad656 := (by injection e656); replace hx656_0 := (HB.out.cell (World.block_lt_of_cell? w _ hx656_0)).trans hx656_0; replace hx656_1 := (HB.out.cell (World.block_lt_of_cell? w _ hx656_1)).trans hx656_1; replace hx656_2 := (HB.out.cell (World.block_lt_of_cell? w _ hx656_2)).trans hx656_2; replace p656 := eq_true p656; replace q656 := eq_true q656) | (go_at_call 52; (with_reducible refine (hearsayref02_Variable.calls ((rd_T23 l0_4 x3_2).f0) ((rd_T23 l0_4 x3_2).f1) ((rd_T23 l0_4 x3_2).f2) true _ A48.out).mono ?_); rintro e w53 ⟨rfl, hb⟩; have n0_ := Aside0.mk (blk_below (g := gb646) (o := .cells #[.int .i64 a0_0, .int .i64 a0_1, .string a0_2, .string a0_3, .slice (some ad654) l0_4.length c0_4] 26 (0, 0)) (by (with_reducible repeat (first | refine blk_drewN ?_ _ | refine blk_drew ?_ | refine blk_alloc ?_ _)); exact BK646.out) hb); have n1_ := Aside0.mk (below_step (by repeat (first | (with_reducible first | exact HB.out | apply below_alloc | apply pw_below_drewN | apply below_drew1 | refine below_set ?_ GE646.out) | exact HB.out)) hb); clear BK646; clear HB; have BK646 := n0_; have HB := n1_; clear n0_ n1_; (try clear hb); (try clear hb2); (try clear hk); (try clear hi)))
                        go_roundg k2
                        case measure => have := HJ6.out; have := HK2.out; omega
                        case rel => exact ⟨(wrap64 (x3_2 + 1)), (by first | rfl | (simp; done) | (simp [*]; done)), H', ⟨by have := HJ6.out; have := HK2.out; omega⟩, ⟨by (with_reducible repeat (first | refine blk_drewN ?_ _ | refine blk_drew ?_ | refine blk_alloc ?_ _)); exact BK646.out⟩, ⟨by repeat (first | (with_reducible first | exact HB.out | apply below_alloc | apply pw_below_drewN | apply below_drew1 | refine below_set ?_ GE646.out) | exact HB.out)⟩⟩
                      · replace c49 := Bool.eq_false_iff.mpr c49
                        subst c49
                        have H1 : (some 24) = some r := by rw [if_neg (show ¬ (false = true) by decide)] at H; exact H
                        clear H
                        have H := H1
                        clear H1
                        obtain rfl := Option.some.inj H
                        have hcz54_0 : wr.cell? ⟨gb646, 0, none⟩ = some (.int .i64 a0_0) := (blk_cell BK646.out 0).trans rfl
                        have hcz54_1 : wr.cell? ⟨gb646, 1, none⟩ = some (.int .i64 a0_1) := (blk_cell BK646.out 1).trans rfl
                        have hcz54_2 : wr.cell? ⟨gb646, 2, none⟩ = some (.string a0_2) := (blk_cell BK646.out 2).trans rfl
                        have hcz54_3 : wr.cell? ⟨gb646, 3, none⟩ = some (.string a0_3) := (blk_cell BK646.out 3).trans rfl
                        have hcz54_4 : wr.cell? ⟨gb646, 4, none⟩ = some (.slice A0_4 l0_4.length c0_4) := (blk_cell BK646.out 4).trans rfl
                        have hfz54_0 := blk_frozen BK646.out 0
                        have hfz54_1 := blk_frozen BK646.out 1
                        have hfz54_2 := blk_frozen BK646.out 2
                        have hfz54_3 := blk_frozen BK646.out 3
                        have hfz54_4 := blk_frozen BK646.out 4
                        have p654 : 0 ≤ (x3_2 : Int) := of_decide_eq_true (by first | (with_reducible assumption) | assumption)
                        have q654 : x3_2 < (l0_4.length : Int) := of_decide_eq_true (by first | (with_reducible assumption) | assumption)
                        obtain ⟨ad654, e654, hx654_0, hx654_1, hx654_2⟩ := at_T23 HR0_4.out x3_2 p654 q654
                        cases e654
                        replace hx654_0 := (HB.out.cell (World.block_lt_of_cell? w _ hx654_0)).trans hx654_0
                        replace hx654_1 := (HB.out.cell (World.block_lt_of_cell? w _ hx654_1)).trans hx654_1
                        replace hx654_2 := (HB.out.cell (World.block_lt_of_cell? w _ hx654_2)).trans hx654_2
                        replace p654 := eq_true p654
                        replace q654 := eq_true q654
                        go_wp2_with (first | ((with_reducible refine gate_callee (f := 66) rfl ?_); refine goesL_ (some 40) rfl rfl Tryd.func66 (by kernel_rfl) rfl #[.agg #[.int .i64 ((rd_T23 l0_4 x3_2).f0), .int .i64 ((rd_T23 l0_4 x3_2).f1), .string ((rd_T23 l0_4 x3_2).f2)]] rfl (by (try simp only [List.map_toArray, List.map_cons, List.map_nil]); first | done | rfl | (simp only [List.length_drop, List.length_take]; rfl)) ?_; (with_reducible refine (hearsayref02_Const.calls ((rd_T23 l0_4 x3_2).f0) ((rd_T23 l0_4 x3_2).f1) ((rd_T23 l0_4 x3_2).f2) false _ A44.out).mono ?_); rintro e w55 ⟨rfl, hb⟩; refine ⟨_, rfl, ?_⟩; have n0_ := Aside0.mk (blk_below (g := gb646) (o := .cells #[.int .i64 a0_0, .int .i64 a0_1, .string a0_2, .string a0_3, .slice (some ad654) l0_4.length c0_4] 26 (0, 0)) (by (with_reducible repeat (first | refine blk_drewN ?_ _ | refine blk_drew ?_ | refine blk_alloc ?_ _)); exact BK646.out) hb); have n1_ := Aside0.mk (below_step (by repeat (first | (with_reducible first | exact HB.out | apply below_alloc | apply pw_below_drewN | apply below_drew1 | refine below_set ?_ GE646.out) | exact HB.out)) hb); clear BK646; clear HB; have BK646 := n0_; have HB := n1_; clear n0_ n1_; (try clear hb); (try clear hb2); (try clear hk); (try clear hi); have hcz56_0 : w55.cell? ⟨gb646, 0, none⟩ = some (.int .i64 a0_0) := (blk_cell BK646.out 0).trans rfl; have hcz56_1 : w55.cell? ⟨gb646, 1, none⟩ = some (.int .i64 a0_1) := (blk_cell BK646.out 1).trans rfl; have hcz56_2 : w55.cell? ⟨gb646, 2, none⟩ = some (.string a0_2) := (blk_cell BK646.out 2).trans rfl; have hcz56_3 : w55.cell? ⟨gb646, 3, none⟩ = some (.string a0_3) := (blk_cell BK646.out 3).trans rfl; have hcz56_4 : w55.cell? ⟨gb646, 4, none⟩ = some (.slice (some ad654) l0_4.length c0_4) := (blk_cell BK646.out 4).trans rfl; have hfz56_0 := blk_frozen BK646.out 0; have hfz56_1 := blk_frozen BK646.out 1; have hfz56_2 := blk_frozen BK646.out 2; have hfz56_3 := blk_frozen BK646.out 3; have hfz56_4 := blk_frozen BK646.out 4; have p656 : 0 ≤ (x3_2 : Int) := of_decide_eq_true (by first | (with_reducible assumption) | assumption); have q656 : x3_2 < (l0_4.length : Int) := of_decide_eq_true (by first | (with_reducible assumption) | assumption); obtain ⟨ad656, e656, hx656_0, hx656_1, hx656_2⟩ := at_T23 HR0_4.out x3_2 p656 q656; obtain rfl : ad654 = ad656 := (by injection e656); replace hx656_0 := (HB.out.cell (World.block_lt_of_cell? w _ hx656_0)).trans hx656_0; replace hx656_1 := (HB.out.cell (World.block_lt_of_cell? w _ hx656_1)).trans hx656_1; replace hx656_2 := (HB.out.cell (World.block_lt_of_cell? w _ hx656_2)).trans hx656_2; replace p656 := eq_true p656; replace q656 := eq_true q656) | (go_at_call 52; (with_reducible refine (hearsayref02_Variable.calls ((rd_T23 l0_4 x3_2).f0) ((rd_T23 l0_4 x3_2).f1) ((rd_T23 l0_4 x3_2).f2) false _ A48.out).mono ?_); rintro e w57 ⟨rfl, hb⟩; have n0_ := Aside0.mk (blk_below (g := gb646) (o := .cells #[.int .i64 a0_0, .int .i64 a0_1, .string a0_2, .string a0_3, .slice (some ad654) l0_4.length c0_4] 26 (0, 0)) (by (with_reducible repeat (first | refine blk_drewN ?_ _ | refine blk_drew ?_ | refine blk_alloc ?_ _)); exact BK646.out) hb); have n1_ := Aside0.mk (below_step (by repeat (first | (with_reducible first | exact HB.out | apply below_alloc | apply pw_below_drewN | apply below_drew1 | refine below_set ?_ GE646.out) | exact HB.out)) hb); clear BK646; clear HB; have BK646 := n0_; have HB := n1_; clear n0_ n1_; (try clear hb); (try clear hb2); (try clear hk); (try clear hi)))
                        go_ret
                        exact ⟨by first | rfl | (simp [errW_none, errW_some] <;> rfl) | (simp [errW_none, errW_some, bne, show ∀ l_ : List UInt8, (l_ == []) = l_.isEmpty from fun l_ => by cases l_ <;> rfl]; done) | (simp [*, errW_none, errW_some] <;> rfl), by repeat (first | (with_reducible first | exact HB.out | apply below_alloc | apply pw_below_drewN | apply below_drew1 | refine below_set ?_ GE646.out) | exact HB.out)⟩
                  · rw [if_neg c43] at H
                    exact absurd H (by simp)
                · rw [if_neg c42] at H
                  have c42b0 : decide (x3_2 < (l0_4.length : Int)) = false := decide_eq_false c42
                  clear c42
                  obtain rfl := Option.some.inj H
                  have hcz58_0 : wr.cell? ⟨gb646, 0, none⟩ = some (.int .i64 a0_0) := (blk_cell BK646.out 0).trans rfl
                  have hcz58_1 : wr.cell? ⟨gb646, 1, none⟩ = some (.int .i64 a0_1) := (blk_cell BK646.out 1).trans rfl
                  have hcz58_2 : wr.cell? ⟨gb646, 2, none⟩ = some (.string a0_2) := (blk_cell BK646.out 2).trans rfl
                  have hcz58_3 : wr.cell? ⟨gb646, 3, none⟩ = some (.string a0_3) := (blk_cell BK646.out 3).trans rfl
                  have hcz58_4 : wr.cell? ⟨gb646, 4, none⟩ = some (.slice A0_4 l0_4.length c0_4) := (blk_cell BK646.out 4).trans rfl
                  have hfz58_0 := blk_frozen BK646.out 0
                  have hfz58_1 := blk_frozen BK646.out 1
                  have hfz58_2 := blk_frozen BK646.out 2
                  have hfz58_3 := blk_frozen BK646.out 3
                  have hfz58_4 := blk_frozen BK646.out 4
                  go_wp2
                  go_ret
                  exact ⟨by first | rfl | (simp [errW_none, errW_some] <;> rfl) | (simp [errW_none, errW_some, bne, show ∀ l_ : List UInt8, (l_ == []) = l_.isEmpty from fun l_ => by cases l_ <;> rfl]; done) | (simp [*, errW_none, errW_some] <;> rfl), by repeat (first | (with_reducible first | exact HB.out | apply below_alloc | apply pw_below_drewN | apply below_drew1 | refine below_set ?_ GE646.out) | exact HB.out)⟩
  · replace c3 := Bool.eq_false_iff.mpr c3
    subst c3
    have H1 : (some 21) = some r := by rw [if_neg (show ¬ (false = true) by decide)] at H; exact H
    clear H
    have H := H1
    clear H1
    obtain rfl := Option.some.inj H
    go_enter Tryd.func40, Tryd.ntmps40
    go_wp2_with (first | ((with_reducible refine gate_dst (N := 1) rfl ?_); refine box_event ?hg (N := 1) ?hd (cs := #[.int .i64 a0_0, .int .i64 a0_1, .string a0_2, .string a0_3, .slice A0_4 l0_4.length c0_4]) (t := 26) ?hr ?_; (case hd => rfl); (case hg => rfl); (case hr => first | (go_simp; done) | (go_simp; rfl)); intro gb646 hg w59 hbox hb; have n0_ := Aside0.mk (below_step (by repeat (first | (with_reducible first | exact HB.out | apply below_alloc | apply pw_below_drewN | apply below_drew1) | exact HB.out)) hb); have n1_ := Aside0.mk (hbox); have n2_ := Aside0.mk ((by rw [hg]; exact (below_size (by repeat (first | (with_reducible first | exact HB.out | apply below_alloc | apply pw_below_drewN | apply below_drew1) | exact HB.out))) : w.heap.size ≤ gb646)); have n3_ := Aside0.mk ((by rw [hg]; exact (below_size (by repeat (first | (with_reducible first | exact HB.out | apply below_alloc | apply pw_below_drewN | apply below_drew1) | exact HB.out))) : w.heap.size ≤ gb646)); clear HB; have HB := n0_; have BK646 := n1_; have GW646 := n2_; have GE646 := n3_; clear n0_ n1_ n2_ n3_; clear hb hbox hg; have hcz60_0 : w59.cell? ⟨gb646, 0, none⟩ = some (.int .i64 a0_0) := (blk_cell BK646.out 0).trans rfl; have hcz60_1 : w59.cell? ⟨gb646, 1, none⟩ = some (.int .i64 a0_1) := (blk_cell BK646.out 1).trans rfl; have hcz60_2 : w59.cell? ⟨gb646, 2, none⟩ = some (.string a0_2) := (blk_cell BK646.out 2).trans rfl; have hcz60_3 : w59.cell? ⟨gb646, 3, none⟩ = some (.string a0_3) := (blk_cell BK646.out 3).trans rfl; have hcz60_4 : w59.cell? ⟨gb646, 4, none⟩ = some (.slice A0_4 l0_4.length c0_4) := (blk_cell BK646.out 4).trans rfl; have hfz60_0 := blk_frozen BK646.out 0; have hfz60_1 := blk_frozen BK646.out 1; have hfz60_2 := blk_frozen BK646.out 2; have hfz60_3 := blk_frozen BK646.out 3; have hfz60_4 := blk_frozen BK646.out 4) | ((with_reducible refine gate_callee (f := 72) rfl ?_); refine goesL_ (some 6) rfl rfl Tryd.func72 (by kernel_rfl) rfl #[.string a0_3] rfl (by (try simp only [List.map_toArray, List.map_cons, List.map_nil]); first | done | rfl | (simp only [List.length_drop, List.length_take]; rfl)) ?_; (with_reducible refine (hearsayref02_Name.calls k a0_3 false _ A2.out).mono ?_); rintro e w' ⟨rfl, ⟨nd, rfl⟩⟩; refine ⟨_, rfl, ?_⟩))
    go_ret
    exact ⟨by first | rfl | (simp [errW_none, errW_some] <;> rfl) | (simp [errW_none, errW_some, bne, show ∀ l_ : List UInt8, (l_ == []) = l_.isEmpty from fun l_ => by cases l_ <;> rfl]; done) | (simp [*, errW_none, errW_some] <;> rfl), by repeat (first | (with_reducible first | exact HB.out | apply below_alloc | apply pw_below_drewN | apply below_drew1 | refine below_set ?_ GE646.out) | exact HB.out)⟩

end Go.Proofs.YtnomgmlfagiffaaDoor.T
