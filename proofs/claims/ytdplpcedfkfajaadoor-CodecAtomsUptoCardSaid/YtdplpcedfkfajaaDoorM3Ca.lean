/- T5; GFunc; Ord; PureV; PureA; GFv: texts of this claim, laid together. -/
import Derived.Test.YtdplpcedfkfajaaDoorM0Ca
import Derived.Test.YtdplpcedfkfajaaDoorM2Ca
import Derived.Below
import Derived.WalkKit
import Derived.Lib.Walk
import Derived.Deep.LoopGhost
import Derived.Shelf.Abstract
import Derived.Deep.Draws
import Derived.Lib.Bytealg
import Derived.Lib.Small
-- By a program of this session (wip/tools/myprint.py), out of the translation.
namespace Go.Proofs.YtdplpcedfkfajaaDoor.T
open Go.RowKit Go.Proofs.YtdplpcedfkfajaaDoorW.PrintWords Go.Proofs.YtdplpcedfkfajaaDoorW.PrintLast Go.Proofs.YtdplpcedfkfajaaDoorW.PrintMore
attribute [local go_sem] max2_int min2_int max_two min_two max_three min_three max_four min_four   -- for this text's walks alone
set_option linter.unusedVariables false
set_option linter.unusedSimpArgs false

mutual
def hearsayref02_CheckAtom.j0 : Nat → Bool → Int → Int → ByteArray → ByteArray → List (S23) → Option (Int)
  | 0, _, _, _, _, _, _ => none
  | k + 1, x27, x139000, x139001, x139002, x139003, x139004 => if x27 = true then (some 23) else (hearsayref02_CheckAtom.l0 k 0 x139000 x139001 x139002 x139003 x139004)
def hearsayref02_CheckAtom.l0 : Nat → Int → Int → Int → ByteArray → ByteArray → List (S23) → Option (Int)
  | 0, _, _, _, _, _, _ => none
  | k + 1, x3, x139000, x139001, x139002, x139003, x139004 => if x3 < (x139004.length : Int) then (if 0 ≤ x3 then ((hearsayref02_Const.f ((rd_T23 x139004 x3).f0) ((rd_T23 x139004 x3).f1) ((rd_T23 x139004 x3).f2)).bind fun t147 => (if t147 = true then (hearsayref02_CheckAtom.l0 k (wrap64 (x3 + 1)) x139000 x139001 x139002 x139003 x139004) else ((hearsayref02_Variable.f ((rd_T23 x139004 x3).f0) ((rd_T23 x139004 x3).f1) ((rd_T23 x139004 x3).f2)).bind fun t149 => (if t149 = true then (hearsayref02_CheckAtom.l0 k (wrap64 (x3 + 1)) x139000 x139001 x139002 x139003 x139004) else (some 24))))) else (none)) else (some 0)
end
def hearsayref02_CheckAtom.f (k : Nat) (a0_0 : Int) (a0_1 : Int) (a0_2 : ByteArray) (a0_3 : ByteArray) (l0_4 : List (S23)) : Option (Int) := (hearsayref02_Name.f k a0_3).bind fun t139 => (if t139 = true then (if (l0_4.length : Int) > 8 then (some 22) else (if a0_0 = 0 then (if a0_1 = 0 then (if a0_2.toList = ([] : List UInt8) then (hearsayref02_CheckAtom.j0 k false a0_0 a0_1 a0_2 a0_3 l0_4) else ((hearsayref02_Principal.f a0_0 a0_1 a0_2).bind fun t140 => (if t140 = true then (hearsayref02_CheckAtom.j0 k false a0_0 a0_1 a0_2 a0_3 l0_4) else ((hearsayref02_Variable.f a0_0 a0_1 a0_2).bind fun t141 => (hearsayref02_CheckAtom.j0 k (!t141) a0_0 a0_1 a0_2 a0_3 l0_4))))) else ((hearsayref02_Principal.f a0_0 a0_1 a0_2).bind fun t142 => (if t142 = true then (hearsayref02_CheckAtom.j0 k false a0_0 a0_1 a0_2 a0_3 l0_4) else ((hearsayref02_Variable.f a0_0 a0_1 a0_2).bind fun t143 => (hearsayref02_CheckAtom.j0 k (!t143) a0_0 a0_1 a0_2 a0_3 l0_4))))) else ((hearsayref02_Principal.f a0_0 a0_1 a0_2).bind fun t144 => (if t144 = true then (hearsayref02_CheckAtom.j0 k false a0_0 a0_1 a0_2 a0_3 l0_4) else ((hearsayref02_Variable.f a0_0 a0_1 a0_2).bind fun t145 => (hearsayref02_CheckAtom.j0 k (!t145) a0_0 a0_1 a0_2 a0_3 l0_4)))))) else (some 21))
set_option maxHeartbeats 8000000 in
set_option maxRecDepth 100000 in
theorem hearsayref02_CheckAtom.calls (k : Nat) (a0_0 : Int) (a0_1 : Int) (a0_2 : ByteArray) (a0_3 : ByteArray) (A0_4 : Option Addr) (c0_4 : Nat) (l0_4 : List (S23)) (r : Int) (w : World) (hr0_4 : Kd.C k23 w A0_4 l0_4.length l0_4) (hc0_4 : l0_4.length ≤ c0_4) (h : hearsayref02_CheckAtom.f k a0_0 a0_1 a0_2 a0_3 l0_4 = some r) :
    Calls Tryd.prog 28 #[.agg #[.int .i64 a0_0, .int .i64 a0_1, .string a0_2, .string a0_3, .slice A0_4 l0_4.length c0_4]] w fun e w' => e = .returned (.int .i64 r) ∧ Below w.heap.size w w' := by
  have hu26 := Tryd.underlying26
  have hu23 := Tryd.underlying23
  have HR0_4 := Aside0.mk hr0_4
  have HC0_4 := Aside0.mk hc0_4
  clear hr0_4 hc0_4
  have HB := Aside0.mk (Below.refl w.heap.size w)
  have H : ((hearsayref02_Name.f k a0_3).bind fun t139 => (if t139 = true then (if (l0_4.length : Int) > 8 then (some 22) else (if a0_0 = 0 then (if a0_1 = 0 then (if a0_2.toList = ([] : List UInt8) then (hearsayref02_CheckAtom.j0 k false a0_0 a0_1 a0_2 a0_3 l0_4) else ((hearsayref02_Principal.f a0_0 a0_1 a0_2).bind fun t140 => (if t140 = true then (hearsayref02_CheckAtom.j0 k false a0_0 a0_1 a0_2 a0_3 l0_4) else ((hearsayref02_Variable.f a0_0 a0_1 a0_2).bind fun t141 => (hearsayref02_CheckAtom.j0 k (!t141) a0_0 a0_1 a0_2 a0_3 l0_4))))) else ((hearsayref02_Principal.f a0_0 a0_1 a0_2).bind fun t142 => (if t142 = true then (hearsayref02_CheckAtom.j0 k false a0_0 a0_1 a0_2 a0_3 l0_4) else ((hearsayref02_Variable.f a0_0 a0_1 a0_2).bind fun t143 => (hearsayref02_CheckAtom.j0 k (!t143) a0_0 a0_1 a0_2 a0_3 l0_4))))) else ((hearsayref02_Principal.f a0_0 a0_1 a0_2).bind fun t144 => (if t144 = true then (hearsayref02_CheckAtom.j0 k false a0_0 a0_1 a0_2 a0_3 l0_4) else ((hearsayref02_Variable.f a0_0 a0_1 a0_2).bind fun t145 => (hearsayref02_CheckAtom.j0 k (!t145) a0_0 a0_1 a0_2 a0_3 l0_4)))))) else (some 21))) = some r := h
  clear h
  replace H := Option.bind_eq_some_iff.mp H
  obtain ⟨t139, A20, H⟩ := H
  replace H : (if t139 = true then (if (l0_4.length : Int) > 8 then (some 22) else (if a0_0 = 0 then (if a0_1 = 0 then (if a0_2.toList = ([] : List UInt8) then (hearsayref02_CheckAtom.j0 k false a0_0 a0_1 a0_2 a0_3 l0_4) else ((hearsayref02_Principal.f a0_0 a0_1 a0_2).bind fun t140 => (if t140 = true then (hearsayref02_CheckAtom.j0 k false a0_0 a0_1 a0_2 a0_3 l0_4) else ((hearsayref02_Variable.f a0_0 a0_1 a0_2).bind fun t141 => (hearsayref02_CheckAtom.j0 k (!t141) a0_0 a0_1 a0_2 a0_3 l0_4))))) else ((hearsayref02_Principal.f a0_0 a0_1 a0_2).bind fun t142 => (if t142 = true then (hearsayref02_CheckAtom.j0 k false a0_0 a0_1 a0_2 a0_3 l0_4) else ((hearsayref02_Variable.f a0_0 a0_1 a0_2).bind fun t143 => (hearsayref02_CheckAtom.j0 k (!t143) a0_0 a0_1 a0_2 a0_3 l0_4))))) else ((hearsayref02_Principal.f a0_0 a0_1 a0_2).bind fun t144 => (if t144 = true then (hearsayref02_CheckAtom.j0 k false a0_0 a0_1 a0_2 a0_3 l0_4) else ((hearsayref02_Variable.f a0_0 a0_1 a0_2).bind fun t145 => (hearsayref02_CheckAtom.j0 k (!t145) a0_0 a0_1 a0_2 a0_3 l0_4)))))) else (some 21)) = some r := H
  have A2 := Aside0.mk A20
  clear A20
  by_cases c3 : t139 = true
  · subst c3
    have H1 : (if (l0_4.length : Int) > 8 then (some 22) else (if a0_0 = 0 then (if a0_1 = 0 then (if a0_2.toList = ([] : List UInt8) then (hearsayref02_CheckAtom.j0 k false a0_0 a0_1 a0_2 a0_3 l0_4) else ((hearsayref02_Principal.f a0_0 a0_1 a0_2).bind fun t140 => (if t140 = true then (hearsayref02_CheckAtom.j0 k false a0_0 a0_1 a0_2 a0_3 l0_4) else ((hearsayref02_Variable.f a0_0 a0_1 a0_2).bind fun t141 => (hearsayref02_CheckAtom.j0 k (!t141) a0_0 a0_1 a0_2 a0_3 l0_4))))) else ((hearsayref02_Principal.f a0_0 a0_1 a0_2).bind fun t142 => (if t142 = true then (hearsayref02_CheckAtom.j0 k false a0_0 a0_1 a0_2 a0_3 l0_4) else ((hearsayref02_Variable.f a0_0 a0_1 a0_2).bind fun t143 => (hearsayref02_CheckAtom.j0 k (!t143) a0_0 a0_1 a0_2 a0_3 l0_4))))) else ((hearsayref02_Principal.f a0_0 a0_1 a0_2).bind fun t144 => (if t144 = true then (hearsayref02_CheckAtom.j0 k false a0_0 a0_1 a0_2 a0_3 l0_4) else ((hearsayref02_Variable.f a0_0 a0_1 a0_2).bind fun t145 => (hearsayref02_CheckAtom.j0 k (!t145) a0_0 a0_1 a0_2 a0_3 l0_4)))))) = some r := by rw [if_pos rfl] at H; exact H
    clear H
    have H := H1
    clear H1
    by_cases c4 : (l0_4.length : Int) > 8
    · rw [if_pos c4] at H
      have c4b0 : decide (8 < (l0_4.length : Int)) = true := decide_eq_true c4
      have c4b1 : decide (8 < l0_4.length) = true := decide_eq_true (by omega)
      clear c4
      obtain rfl := Option.some.inj H
      go_enter Tryd.func28, Tryd.ntmps28
      go_wp2_with (first | ((with_reducible refine gate_dst (N := 1) rfl ?_); refine box_event ?hg (N := 1) ?hd (cs := #[.int .i64 a0_0, .int .i64 a0_1, .string a0_2, .string a0_3, .slice A0_4 l0_4.length c0_4]) (t := 26) ?hr ?_; (case hd => rfl); (case hg => rfl); (case hr => first | (go_simp; done) | (go_simp; rfl)); intro gb138 hg w5 hbox hb; have n0_ := Aside0.mk (below_step (by repeat (first | (with_reducible first | exact HB.out | apply below_alloc | apply pw_below_drewN | apply below_drew1) | exact HB.out)) hb); have n1_ := Aside0.mk (hbox); have n2_ := Aside0.mk ((by rw [hg]; exact (below_size (by repeat (first | (with_reducible first | exact HB.out | apply below_alloc | apply pw_below_drewN | apply below_drew1) | exact HB.out))) : w.heap.size ≤ gb138)); have n3_ := Aside0.mk ((by rw [hg]; exact (below_size (by repeat (first | (with_reducible first | exact HB.out | apply below_alloc | apply pw_below_drewN | apply below_drew1) | exact HB.out))) : w.heap.size ≤ gb138)); clear HB; have HB := n0_; have BK138 := n1_; have GW138 := n2_; have GE138 := n3_; clear n0_ n1_ n2_ n3_; clear hb hbox hg; have hcz6_0 : w5.cell? ⟨gb138, 0, none⟩ = some (.int .i64 a0_0) := (blk_cell BK138.out 0).trans rfl; have hcz6_1 : w5.cell? ⟨gb138, 1, none⟩ = some (.int .i64 a0_1) := (blk_cell BK138.out 1).trans rfl; have hcz6_2 : w5.cell? ⟨gb138, 2, none⟩ = some (.string a0_2) := (blk_cell BK138.out 2).trans rfl; have hcz6_3 : w5.cell? ⟨gb138, 3, none⟩ = some (.string a0_3) := (blk_cell BK138.out 3).trans rfl; have hcz6_4 : w5.cell? ⟨gb138, 4, none⟩ = some (.slice A0_4 l0_4.length c0_4) := (blk_cell BK138.out 4).trans rfl; have hfz6_0 := blk_frozen BK138.out 0; have hfz6_1 := blk_frozen BK138.out 1; have hfz6_2 := blk_frozen BK138.out 2; have hfz6_3 := blk_frozen BK138.out 3; have hfz6_4 := blk_frozen BK138.out 4) | ((with_reducible refine gate_callee (f := 61) rfl ?_); refine goesL_ (some 6) rfl rfl Tryd.func61 (by kernel_rfl) rfl #[.string a0_3] rfl (by (try simp only [List.map_toArray, List.map_cons, List.map_nil]); first | done | rfl | (simp only [List.length_drop, List.length_take]; rfl)) ?_; (with_reducible refine (hearsayref02_Name.calls k a0_3 true _ A2.out).mono ?_); rintro e w' ⟨rfl, ⟨nd, rfl⟩⟩; refine ⟨_, rfl, ?_⟩))
      go_ret
      exact ⟨by first | rfl | (simp [errW_none, errW_some] <;> rfl) | (simp [errW_none, errW_some, bne, show ∀ l_ : List UInt8, (l_ == []) = l_.isEmpty from fun l_ => by cases l_ <;> rfl]; done) | (simp [*, errW_none, errW_some] <;> rfl), by repeat (first | (with_reducible first | exact HB.out | apply below_alloc | apply pw_below_drewN | apply below_drew1 | refine below_set ?_ GE138.out) | exact HB.out)⟩
    · rw [if_neg c4] at H
      have c4b0 : decide (8 < (l0_4.length : Int)) = false := decide_eq_false c4
      have c4b1 : decide (8 < l0_4.length) = false := decide_eq_false (by omega)
      clear c4
      have HC7 := Aside0.mk H
      clear H
      go_enter Tryd.func28, Tryd.ntmps28
      go_upto_region 5 with (first | ((with_reducible refine gate_dst (N := 1) rfl ?_); refine box_event ?hg (N := 1) ?hd (cs := #[.int .i64 a0_0, .int .i64 a0_1, .string a0_2, .string a0_3, .slice A0_4 l0_4.length c0_4]) (t := 26) ?hr ?_; (case hd => rfl); (case hg => rfl); (case hr => first | (go_simp; done) | (go_simp; rfl)); intro gb138 hg w8 hbox hb; have n0_ := Aside0.mk (below_step (by repeat (first | (with_reducible first | exact HB.out | apply below_alloc | apply pw_below_drewN | apply below_drew1) | exact HB.out)) hb); have n1_ := Aside0.mk (hbox); have n2_ := Aside0.mk ((by rw [hg]; exact (below_size (by repeat (first | (with_reducible first | exact HB.out | apply below_alloc | apply pw_below_drewN | apply below_drew1) | exact HB.out))) : w.heap.size ≤ gb138)); have n3_ := Aside0.mk ((by rw [hg]; exact (below_size (by repeat (first | (with_reducible first | exact HB.out | apply below_alloc | apply pw_below_drewN | apply below_drew1) | exact HB.out))) : w.heap.size ≤ gb138)); clear HB; have HB := n0_; have BK138 := n1_; have GW138 := n2_; have GE138 := n3_; clear n0_ n1_ n2_ n3_; clear hb hbox hg; have hcz9_0 : w8.cell? ⟨gb138, 0, none⟩ = some (.int .i64 a0_0) := (blk_cell BK138.out 0).trans rfl; have hcz9_1 : w8.cell? ⟨gb138, 1, none⟩ = some (.int .i64 a0_1) := (blk_cell BK138.out 1).trans rfl; have hcz9_2 : w8.cell? ⟨gb138, 2, none⟩ = some (.string a0_2) := (blk_cell BK138.out 2).trans rfl; have hcz9_3 : w8.cell? ⟨gb138, 3, none⟩ = some (.string a0_3) := (blk_cell BK138.out 3).trans rfl; have hcz9_4 : w8.cell? ⟨gb138, 4, none⟩ = some (.slice A0_4 l0_4.length c0_4) := (blk_cell BK138.out 4).trans rfl; have hfz9_0 := blk_frozen BK138.out 0; have hfz9_1 := blk_frozen BK138.out 1; have hfz9_2 := blk_frozen BK138.out 2; have hfz9_3 := blk_frozen BK138.out 3; have hfz9_4 := blk_frozen BK138.out 4) | ((with_reducible refine gate_callee (f := 61) rfl ?_); refine goesL_ (some 6) rfl rfl Tryd.func61 (by kernel_rfl) rfl #[.string a0_3] rfl (by (try simp only [List.map_toArray, List.map_cons, List.map_nil]); first | done | rfl | (simp only [List.length_drop, List.length_take]; rfl)) ?_; (with_reducible refine (hearsayref02_Name.calls k a0_3 true _ A2.out).mono ?_); rintro e w' ⟨rfl, ⟨nd, rfl⟩⟩; refine ⟨_, rfl, ?_⟩))
      (try simp only [Act.put, List.setIfInBounds_toArray, List.set_cons_zero, List.set_cons_succ])
      go_cut [27] (fun v27 wc => ∃ (kq : Nat) (x27_6 : Bool), v27 = .bool x27_6 ∧ Aside0 (hearsayref02_CheckAtom.j0 kq x27_6 a0_0 a0_1 a0_2 a0_3 l0_4 = some r) ∧ Aside0 (kq ≤ k) ∧ Aside0 (wc.heap[gb138]? = some (.cells #[.int .i64 a0_0, .int .i64 a0_1, .string a0_2, .string a0_3, (.slice A0_4 l0_4.length c0_4)] 26 (0, 0))) ∧ Aside0 (Below w.heap.size w wc))
      case first =>
        have H := HC7.out
        clear HC7
        by_cases c10 : a0_0 = 0
        · rw [if_pos c10] at H
          have c10b0 : (a0_0 == 0) = true := beq_iff_eq.mpr c10
          have c10b1 : (a0_0 != 0) = false := bne_eq_false_iff_eq.mpr c10
          clear c10
          (first | rw [c10b0] | (simp only [i64_w, i32_w]; rw [c10b0]) | skip)
          by_cases c11 : a0_1 = 0
          · rw [if_pos c11] at H
            have c11b0 : (a0_1 == 0) = true := beq_iff_eq.mpr c11
            have c11b1 : (a0_1 != 0) = false := bne_eq_false_iff_eq.mpr c11
            clear c11
            by_cases c12 : a0_2.toList = ([] : List UInt8)
            · rw [if_pos c12] at H
              have c12b0 : (a0_2.toList == ([] : List UInt8)) = true := beq_iff_eq.mpr c12
              have c12b1 : (a0_2.toList != ([] : List UInt8)) = false := bne_eq_false_iff_eq.mpr c12
              clear c12
              have H' := Aside0.mk H
              clear H
              have hcz13_0 : w8.cell? ⟨gb138, 0, none⟩ = some (.int .i64 a0_0) := (blk_cell BK138.out 0).trans rfl
              have hcz13_1 : w8.cell? ⟨gb138, 1, none⟩ = some (.int .i64 a0_1) := (blk_cell BK138.out 1).trans rfl
              have hcz13_2 : w8.cell? ⟨gb138, 2, none⟩ = some (.string a0_2) := (blk_cell BK138.out 2).trans rfl
              have hcz13_3 : w8.cell? ⟨gb138, 3, none⟩ = some (.string a0_3) := (blk_cell BK138.out 3).trans rfl
              have hcz13_4 : w8.cell? ⟨gb138, 4, none⟩ = some (.slice A0_4 l0_4.length c0_4) := (blk_cell BK138.out 4).trans rfl
              have hfz13_0 := blk_frozen BK138.out 0
              have hfz13_1 := blk_frozen BK138.out 1
              have hfz13_2 := blk_frozen BK138.out 2
              have hfz13_3 := blk_frozen BK138.out 3
              have hfz13_4 := blk_frozen BK138.out 4
              go_wp2
              go_meet
              case rel => exact ⟨_, (false), (by first | rfl | (simp; done) | (simp [*]; done)), H', ⟨by first | omega | exact Nat.le_refl _⟩, ⟨by (with_reducible repeat (first | refine blk_drewN ?_ _ | refine blk_drew ?_ | refine blk_alloc ?_ _)); exact BK138.out⟩, ⟨by repeat (first | (with_reducible first | exact HB.out | apply below_alloc | apply pw_below_drewN | apply below_drew1 | refine below_set ?_ GE138.out) | exact HB.out)⟩⟩
            · rw [if_neg c12] at H
              have c12b0 : (a0_2.toList == ([] : List UInt8)) = false := beq_eq_false_iff_ne.mpr c12
              have c12b1 : (a0_2.toList != ([] : List UInt8)) = true := bne_iff_ne.mpr c12
              replace H := Option.bind_eq_some_iff.mp H
              obtain ⟨t140, A140, H⟩ := H
              replace H : (if t140 = true then (hearsayref02_CheckAtom.j0 k false a0_0 a0_1 a0_2 a0_3 l0_4) else ((hearsayref02_Variable.f a0_0 a0_1 a0_2).bind fun t141 => (hearsayref02_CheckAtom.j0 k (!t141) a0_0 a0_1 a0_2 a0_3 l0_4))) = some r := H
              have A14 := Aside0.mk A140
              clear A140
              by_cases c15 : t140 = true
              · subst c15
                have H1 : (hearsayref02_CheckAtom.j0 k false a0_0 a0_1 a0_2 a0_3 l0_4) = some r := by rw [if_pos rfl] at H; exact H
                clear H
                have H := H1
                clear H1
                have H' := Aside0.mk H
                clear H
                have hcz16_0 : w8.cell? ⟨gb138, 0, none⟩ = some (.int .i64 a0_0) := (blk_cell BK138.out 0).trans rfl
                have hcz16_1 : w8.cell? ⟨gb138, 1, none⟩ = some (.int .i64 a0_1) := (blk_cell BK138.out 1).trans rfl
                have hcz16_2 : w8.cell? ⟨gb138, 2, none⟩ = some (.string a0_2) := (blk_cell BK138.out 2).trans rfl
                have hcz16_3 : w8.cell? ⟨gb138, 3, none⟩ = some (.string a0_3) := (blk_cell BK138.out 3).trans rfl
                have hcz16_4 : w8.cell? ⟨gb138, 4, none⟩ = some (.slice A0_4 l0_4.length c0_4) := (blk_cell BK138.out 4).trans rfl
                have hfz16_0 := blk_frozen BK138.out 0
                have hfz16_1 := blk_frozen BK138.out 1
                have hfz16_2 := blk_frozen BK138.out 2
                have hfz16_3 := blk_frozen BK138.out 3
                have hfz16_4 := blk_frozen BK138.out 4
                go_wp2_with (first | (go_at_call 62; (with_reducible refine (hearsayref02_Principal.calls a0_0 a0_1 a0_2 true _ A14.out).mono ?_); rintro e w17 ⟨rfl, hb⟩; have n0_ := Aside0.mk (blk_below (g := gb138) (o := .cells #[.int .i64 a0_0, .int .i64 a0_1, .string a0_2, .string a0_3, .slice A0_4 l0_4.length c0_4] 26 (0, 0)) (by (with_reducible repeat (first | refine blk_drewN ?_ _ | refine blk_drew ?_ | refine blk_alloc ?_ _)); exact BK138.out) hb); have n1_ := Aside0.mk (below_step (by repeat (first | (with_reducible first | exact HB.out | apply below_alloc | apply pw_below_drewN | apply below_drew1 | refine below_set ?_ GE138.out) | exact HB.out)) hb); clear BK138; clear HB; have BK138 := n0_; have HB := n1_; clear n0_ n1_; (try clear hb); (try clear hb2); (try clear hk); (try clear hi)))
                go_meet
                case rel => exact ⟨_, (false), (by first | rfl | (simp; done) | (simp [*]; done)), H', ⟨by first | omega | exact Nat.le_refl _⟩, ⟨by (with_reducible repeat (first | refine blk_drewN ?_ _ | refine blk_drew ?_ | refine blk_alloc ?_ _)); exact BK138.out⟩, ⟨by repeat (first | (with_reducible first | exact HB.out | apply below_alloc | apply pw_below_drewN | apply below_drew1 | refine below_set ?_ GE138.out) | exact HB.out)⟩⟩
              · replace c15 := Bool.eq_false_iff.mpr c15
                subst c15
                have H1 : ((hearsayref02_Variable.f a0_0 a0_1 a0_2).bind fun t141 => (hearsayref02_CheckAtom.j0 k (!t141) a0_0 a0_1 a0_2 a0_3 l0_4)) = some r := by rw [if_neg (show ¬ (false = true) by decide)] at H; exact H
                clear H
                have H := H1
                clear H1
                replace H := Option.bind_eq_some_iff.mp H
                obtain ⟨t141, A180, H⟩ := H
                replace H : (hearsayref02_CheckAtom.j0 k (!t141) a0_0 a0_1 a0_2 a0_3 l0_4) = some r := H
                have A18 := Aside0.mk A180
                clear A180
                have H' := Aside0.mk H
                clear H
                have hcz19_0 : w8.cell? ⟨gb138, 0, none⟩ = some (.int .i64 a0_0) := (blk_cell BK138.out 0).trans rfl
                have hcz19_1 : w8.cell? ⟨gb138, 1, none⟩ = some (.int .i64 a0_1) := (blk_cell BK138.out 1).trans rfl
                have hcz19_2 : w8.cell? ⟨gb138, 2, none⟩ = some (.string a0_2) := (blk_cell BK138.out 2).trans rfl
                have hcz19_3 : w8.cell? ⟨gb138, 3, none⟩ = some (.string a0_3) := (blk_cell BK138.out 3).trans rfl
                have hcz19_4 : w8.cell? ⟨gb138, 4, none⟩ = some (.slice A0_4 l0_4.length c0_4) := (blk_cell BK138.out 4).trans rfl
                have hfz19_0 := blk_frozen BK138.out 0
                have hfz19_1 := blk_frozen BK138.out 1
                have hfz19_2 := blk_frozen BK138.out 2
                have hfz19_3 := blk_frozen BK138.out 3
                have hfz19_4 := blk_frozen BK138.out 4
                go_wp2_with (first | (go_at_call 62; (with_reducible refine (hearsayref02_Principal.calls a0_0 a0_1 a0_2 false _ A14.out).mono ?_); rintro e w20 ⟨rfl, hb⟩; have n0_ := Aside0.mk (blk_below (g := gb138) (o := .cells #[.int .i64 a0_0, .int .i64 a0_1, .string a0_2, .string a0_3, .slice A0_4 l0_4.length c0_4] 26 (0, 0)) (by (with_reducible repeat (first | refine blk_drewN ?_ _ | refine blk_drew ?_ | refine blk_alloc ?_ _)); exact BK138.out) hb); have n1_ := Aside0.mk (below_step (by repeat (first | (with_reducible first | exact HB.out | apply below_alloc | apply pw_below_drewN | apply below_drew1 | refine below_set ?_ GE138.out) | exact HB.out)) hb); clear BK138; clear HB; have BK138 := n0_; have HB := n1_; clear n0_ n1_; (try clear hb); (try clear hb2); (try clear hk); (try clear hi); have hcz21_0 : w20.cell? ⟨gb138, 0, none⟩ = some (.int .i64 a0_0) := (blk_cell BK138.out 0).trans rfl; have hcz21_1 : w20.cell? ⟨gb138, 1, none⟩ = some (.int .i64 a0_1) := (blk_cell BK138.out 1).trans rfl; have hcz21_2 : w20.cell? ⟨gb138, 2, none⟩ = some (.string a0_2) := (blk_cell BK138.out 2).trans rfl; have hcz21_3 : w20.cell? ⟨gb138, 3, none⟩ = some (.string a0_3) := (blk_cell BK138.out 3).trans rfl; have hcz21_4 : w20.cell? ⟨gb138, 4, none⟩ = some (.slice A0_4 l0_4.length c0_4) := (blk_cell BK138.out 4).trans rfl; have hfz21_0 := blk_frozen BK138.out 0; have hfz21_1 := blk_frozen BK138.out 1; have hfz21_2 := blk_frozen BK138.out 2; have hfz21_3 := blk_frozen BK138.out 3; have hfz21_4 := blk_frozen BK138.out 4) | (go_at_call 51; (with_reducible refine (hearsayref02_Variable.calls a0_0 a0_1 a0_2 t141 _ A18.out).mono ?_); rintro e w22 ⟨rfl, hb⟩; have n0_ := Aside0.mk (blk_below (g := gb138) (o := .cells #[.int .i64 a0_0, .int .i64 a0_1, .string a0_2, .string a0_3, .slice A0_4 l0_4.length c0_4] 26 (0, 0)) (by (with_reducible repeat (first | refine blk_drewN ?_ _ | refine blk_drew ?_ | refine blk_alloc ?_ _)); exact BK138.out) hb); have n1_ := Aside0.mk (below_step (by repeat (first | (with_reducible first | exact HB.out | apply below_alloc | apply pw_below_drewN | apply below_drew1 | refine below_set ?_ GE138.out) | exact HB.out)) hb); clear BK138; clear HB; have BK138 := n0_; have HB := n1_; clear n0_ n1_; (try clear hb); (try clear hb2); (try clear hk); (try clear hi)))
                go_meet
                case rel => exact ⟨_, (!t141), (by first | rfl | (simp; done) | (simp [*]; done)), H', ⟨by first | omega | exact Nat.le_refl _⟩, ⟨by (with_reducible repeat (first | refine blk_drewN ?_ _ | refine blk_drew ?_ | refine blk_alloc ?_ _)); exact BK138.out⟩, ⟨by repeat (first | (with_reducible first | exact HB.out | apply below_alloc | apply pw_below_drewN | apply below_drew1 | refine below_set ?_ GE138.out) | exact HB.out)⟩⟩
          · rw [if_neg c11] at H
            have c11b0 : (a0_1 == 0) = false := beq_eq_false_iff_ne.mpr c11
            have c11b1 : (a0_1 != 0) = true := bne_iff_ne.mpr c11
            replace H := Option.bind_eq_some_iff.mp H
            obtain ⟨t142, A230, H⟩ := H
            replace H : (if t142 = true then (hearsayref02_CheckAtom.j0 k false a0_0 a0_1 a0_2 a0_3 l0_4) else ((hearsayref02_Variable.f a0_0 a0_1 a0_2).bind fun t143 => (hearsayref02_CheckAtom.j0 k (!t143) a0_0 a0_1 a0_2 a0_3 l0_4))) = some r := H
            have A23 := Aside0.mk A230
            clear A230
            by_cases c24 : t142 = true
            · subst c24
              have H1 : (hearsayref02_CheckAtom.j0 k false a0_0 a0_1 a0_2 a0_3 l0_4) = some r := by rw [if_pos rfl] at H; exact H
              clear H
              have H := H1
              clear H1
              have H' := Aside0.mk H
              clear H
              have hcz25_0 : w8.cell? ⟨gb138, 0, none⟩ = some (.int .i64 a0_0) := (blk_cell BK138.out 0).trans rfl
              have hcz25_1 : w8.cell? ⟨gb138, 1, none⟩ = some (.int .i64 a0_1) := (blk_cell BK138.out 1).trans rfl
              have hcz25_2 : w8.cell? ⟨gb138, 2, none⟩ = some (.string a0_2) := (blk_cell BK138.out 2).trans rfl
              have hcz25_3 : w8.cell? ⟨gb138, 3, none⟩ = some (.string a0_3) := (blk_cell BK138.out 3).trans rfl
              have hcz25_4 : w8.cell? ⟨gb138, 4, none⟩ = some (.slice A0_4 l0_4.length c0_4) := (blk_cell BK138.out 4).trans rfl
              have hfz25_0 := blk_frozen BK138.out 0
              have hfz25_1 := blk_frozen BK138.out 1
              have hfz25_2 := blk_frozen BK138.out 2
              have hfz25_3 := blk_frozen BK138.out 3
              have hfz25_4 := blk_frozen BK138.out 4
              go_wp2_with (first | (go_at_call 62; (with_reducible refine (hearsayref02_Principal.calls a0_0 a0_1 a0_2 true _ A23.out).mono ?_); rintro e w26 ⟨rfl, hb⟩; have n0_ := Aside0.mk (blk_below (g := gb138) (o := .cells #[.int .i64 a0_0, .int .i64 a0_1, .string a0_2, .string a0_3, .slice A0_4 l0_4.length c0_4] 26 (0, 0)) (by (with_reducible repeat (first | refine blk_drewN ?_ _ | refine blk_drew ?_ | refine blk_alloc ?_ _)); exact BK138.out) hb); have n1_ := Aside0.mk (below_step (by repeat (first | (with_reducible first | exact HB.out | apply below_alloc | apply pw_below_drewN | apply below_drew1 | refine below_set ?_ GE138.out) | exact HB.out)) hb); clear BK138; clear HB; have BK138 := n0_; have HB := n1_; clear n0_ n1_; (try clear hb); (try clear hb2); (try clear hk); (try clear hi)))
              go_meet
              case rel => exact ⟨_, (false), (by first | rfl | (simp; done) | (simp [*]; done)), H', ⟨by first | omega | exact Nat.le_refl _⟩, ⟨by (with_reducible repeat (first | refine blk_drewN ?_ _ | refine blk_drew ?_ | refine blk_alloc ?_ _)); exact BK138.out⟩, ⟨by repeat (first | (with_reducible first | exact HB.out | apply below_alloc | apply pw_below_drewN | apply below_drew1 | refine below_set ?_ GE138.out) | exact HB.out)⟩⟩
            · replace c24 := Bool.eq_false_iff.mpr c24
              subst c24
              have H1 : ((hearsayref02_Variable.f a0_0 a0_1 a0_2).bind fun t143 => (hearsayref02_CheckAtom.j0 k (!t143) a0_0 a0_1 a0_2 a0_3 l0_4)) = some r := by rw [if_neg (show ¬ (false = true) by decide)] at H; exact H
              clear H
              have H := H1
              clear H1
              replace H := Option.bind_eq_some_iff.mp H
              obtain ⟨t143, A270, H⟩ := H
              replace H : (hearsayref02_CheckAtom.j0 k (!t143) a0_0 a0_1 a0_2 a0_3 l0_4) = some r := H
              have A27 := Aside0.mk A270
              clear A270
              have H' := Aside0.mk H
              clear H
              have hcz28_0 : w8.cell? ⟨gb138, 0, none⟩ = some (.int .i64 a0_0) := (blk_cell BK138.out 0).trans rfl
              have hcz28_1 : w8.cell? ⟨gb138, 1, none⟩ = some (.int .i64 a0_1) := (blk_cell BK138.out 1).trans rfl
              have hcz28_2 : w8.cell? ⟨gb138, 2, none⟩ = some (.string a0_2) := (blk_cell BK138.out 2).trans rfl
              have hcz28_3 : w8.cell? ⟨gb138, 3, none⟩ = some (.string a0_3) := (blk_cell BK138.out 3).trans rfl
              have hcz28_4 : w8.cell? ⟨gb138, 4, none⟩ = some (.slice A0_4 l0_4.length c0_4) := (blk_cell BK138.out 4).trans rfl
              have hfz28_0 := blk_frozen BK138.out 0
              have hfz28_1 := blk_frozen BK138.out 1
              have hfz28_2 := blk_frozen BK138.out 2
              have hfz28_3 := blk_frozen BK138.out 3
              have hfz28_4 := blk_frozen BK138.out 4
              go_wp2_with (first | (go_at_call 62; (with_reducible refine (hearsayref02_Principal.calls a0_0 a0_1 a0_2 false _ A23.out).mono ?_); rintro e w29 ⟨rfl, hb⟩; have n0_ := Aside0.mk (blk_below (g := gb138) (o := .cells #[.int .i64 a0_0, .int .i64 a0_1, .string a0_2, .string a0_3, .slice A0_4 l0_4.length c0_4] 26 (0, 0)) (by (with_reducible repeat (first | refine blk_drewN ?_ _ | refine blk_drew ?_ | refine blk_alloc ?_ _)); exact BK138.out) hb); have n1_ := Aside0.mk (below_step (by repeat (first | (with_reducible first | exact HB.out | apply below_alloc | apply pw_below_drewN | apply below_drew1 | refine below_set ?_ GE138.out) | exact HB.out)) hb); clear BK138; clear HB; have BK138 := n0_; have HB := n1_; clear n0_ n1_; (try clear hb); (try clear hb2); (try clear hk); (try clear hi); have hcz30_0 : w29.cell? ⟨gb138, 0, none⟩ = some (.int .i64 a0_0) := (blk_cell BK138.out 0).trans rfl; have hcz30_1 : w29.cell? ⟨gb138, 1, none⟩ = some (.int .i64 a0_1) := (blk_cell BK138.out 1).trans rfl; have hcz30_2 : w29.cell? ⟨gb138, 2, none⟩ = some (.string a0_2) := (blk_cell BK138.out 2).trans rfl; have hcz30_3 : w29.cell? ⟨gb138, 3, none⟩ = some (.string a0_3) := (blk_cell BK138.out 3).trans rfl; have hcz30_4 : w29.cell? ⟨gb138, 4, none⟩ = some (.slice A0_4 l0_4.length c0_4) := (blk_cell BK138.out 4).trans rfl; have hfz30_0 := blk_frozen BK138.out 0; have hfz30_1 := blk_frozen BK138.out 1; have hfz30_2 := blk_frozen BK138.out 2; have hfz30_3 := blk_frozen BK138.out 3; have hfz30_4 := blk_frozen BK138.out 4) | (go_at_call 51; (with_reducible refine (hearsayref02_Variable.calls a0_0 a0_1 a0_2 t143 _ A27.out).mono ?_); rintro e w31 ⟨rfl, hb⟩; have n0_ := Aside0.mk (blk_below (g := gb138) (o := .cells #[.int .i64 a0_0, .int .i64 a0_1, .string a0_2, .string a0_3, .slice A0_4 l0_4.length c0_4] 26 (0, 0)) (by (with_reducible repeat (first | refine blk_drewN ?_ _ | refine blk_drew ?_ | refine blk_alloc ?_ _)); exact BK138.out) hb); have n1_ := Aside0.mk (below_step (by repeat (first | (with_reducible first | exact HB.out | apply below_alloc | apply pw_below_drewN | apply below_drew1 | refine below_set ?_ GE138.out) | exact HB.out)) hb); clear BK138; clear HB; have BK138 := n0_; have HB := n1_; clear n0_ n1_; (try clear hb); (try clear hb2); (try clear hk); (try clear hi)))
              go_meet
              case rel => exact ⟨_, (!t143), (by first | rfl | (simp; done) | (simp [*]; done)), H', ⟨by first | omega | exact Nat.le_refl _⟩, ⟨by (with_reducible repeat (first | refine blk_drewN ?_ _ | refine blk_drew ?_ | refine blk_alloc ?_ _)); exact BK138.out⟩, ⟨by repeat (first | (with_reducible first | exact HB.out | apply below_alloc | apply pw_below_drewN | apply below_drew1 | refine below_set ?_ GE138.out) | exact HB.out)⟩⟩
        · rw [if_neg c10] at H
          have c10b0 : (a0_0 == 0) = false := beq_eq_false_iff_ne.mpr c10
          have c10b1 : (a0_0 != 0) = true := bne_iff_ne.mpr c10
          (first | rw [c10b0] | (simp only [i64_w, i32_w]; rw [c10b0]) | skip)
          replace H := Option.bind_eq_some_iff.mp H
          obtain ⟨t144, A320, H⟩ := H
          replace H : (if t144 = true then (hearsayref02_CheckAtom.j0 k false a0_0 a0_1 a0_2 a0_3 l0_4) else ((hearsayref02_Variable.f a0_0 a0_1 a0_2).bind fun t145 => (hearsayref02_CheckAtom.j0 k (!t145) a0_0 a0_1 a0_2 a0_3 l0_4))) = some r := H
          have A32 := Aside0.mk A320
          clear A320
          by_cases c33 : t144 = true
          · subst c33
            have H1 : (hearsayref02_CheckAtom.j0 k false a0_0 a0_1 a0_2 a0_3 l0_4) = some r := by rw [if_pos rfl] at H; exact H
            clear H
            have H := H1
            clear H1
            have H' := Aside0.mk H
            clear H
            have hcz34_0 : w8.cell? ⟨gb138, 0, none⟩ = some (.int .i64 a0_0) := (blk_cell BK138.out 0).trans rfl
            have hcz34_1 : w8.cell? ⟨gb138, 1, none⟩ = some (.int .i64 a0_1) := (blk_cell BK138.out 1).trans rfl
            have hcz34_2 : w8.cell? ⟨gb138, 2, none⟩ = some (.string a0_2) := (blk_cell BK138.out 2).trans rfl
            have hcz34_3 : w8.cell? ⟨gb138, 3, none⟩ = some (.string a0_3) := (blk_cell BK138.out 3).trans rfl
            have hcz34_4 : w8.cell? ⟨gb138, 4, none⟩ = some (.slice A0_4 l0_4.length c0_4) := (blk_cell BK138.out 4).trans rfl
            have hfz34_0 := blk_frozen BK138.out 0
            have hfz34_1 := blk_frozen BK138.out 1
            have hfz34_2 := blk_frozen BK138.out 2
            have hfz34_3 := blk_frozen BK138.out 3
            have hfz34_4 := blk_frozen BK138.out 4
            go_wp2_with (first | (go_at_call 62; (with_reducible refine (hearsayref02_Principal.calls a0_0 a0_1 a0_2 true _ A32.out).mono ?_); rintro e w35 ⟨rfl, hb⟩; have n0_ := Aside0.mk (blk_below (g := gb138) (o := .cells #[.int .i64 a0_0, .int .i64 a0_1, .string a0_2, .string a0_3, .slice A0_4 l0_4.length c0_4] 26 (0, 0)) (by (with_reducible repeat (first | refine blk_drewN ?_ _ | refine blk_drew ?_ | refine blk_alloc ?_ _)); exact BK138.out) hb); have n1_ := Aside0.mk (below_step (by repeat (first | (with_reducible first | exact HB.out | apply below_alloc | apply pw_below_drewN | apply below_drew1 | refine below_set ?_ GE138.out) | exact HB.out)) hb); clear BK138; clear HB; have BK138 := n0_; have HB := n1_; clear n0_ n1_; (try clear hb); (try clear hb2); (try clear hk); (try clear hi)))
            go_meet
            case rel => exact ⟨_, (false), (by first | rfl | (simp; done) | (simp [*]; done)), H', ⟨by first | omega | exact Nat.le_refl _⟩, ⟨by (with_reducible repeat (first | refine blk_drewN ?_ _ | refine blk_drew ?_ | refine blk_alloc ?_ _)); exact BK138.out⟩, ⟨by repeat (first | (with_reducible first | exact HB.out | apply below_alloc | apply pw_below_drewN | apply below_drew1 | refine below_set ?_ GE138.out) | exact HB.out)⟩⟩
          · replace c33 := Bool.eq_false_iff.mpr c33
            subst c33
            have H1 : ((hearsayref02_Variable.f a0_0 a0_1 a0_2).bind fun t145 => (hearsayref02_CheckAtom.j0 k (!t145) a0_0 a0_1 a0_2 a0_3 l0_4)) = some r := by rw [if_neg (show ¬ (false = true) by decide)] at H; exact H
            clear H
            have H := H1
            clear H1
            replace H := Option.bind_eq_some_iff.mp H
            obtain ⟨t145, A360, H⟩ := H
            replace H : (hearsayref02_CheckAtom.j0 k (!t145) a0_0 a0_1 a0_2 a0_3 l0_4) = some r := H
            have A36 := Aside0.mk A360
            clear A360
            have H' := Aside0.mk H
            clear H
            have hcz37_0 : w8.cell? ⟨gb138, 0, none⟩ = some (.int .i64 a0_0) := (blk_cell BK138.out 0).trans rfl
            have hcz37_1 : w8.cell? ⟨gb138, 1, none⟩ = some (.int .i64 a0_1) := (blk_cell BK138.out 1).trans rfl
            have hcz37_2 : w8.cell? ⟨gb138, 2, none⟩ = some (.string a0_2) := (blk_cell BK138.out 2).trans rfl
            have hcz37_3 : w8.cell? ⟨gb138, 3, none⟩ = some (.string a0_3) := (blk_cell BK138.out 3).trans rfl
            have hcz37_4 : w8.cell? ⟨gb138, 4, none⟩ = some (.slice A0_4 l0_4.length c0_4) := (blk_cell BK138.out 4).trans rfl
            have hfz37_0 := blk_frozen BK138.out 0
            have hfz37_1 := blk_frozen BK138.out 1
            have hfz37_2 := blk_frozen BK138.out 2
            have hfz37_3 := blk_frozen BK138.out 3
            have hfz37_4 := blk_frozen BK138.out 4
            go_wp2_with (first | (go_at_call 62; (with_reducible refine (hearsayref02_Principal.calls a0_0 a0_1 a0_2 false _ A32.out).mono ?_); rintro e w38 ⟨rfl, hb⟩; have n0_ := Aside0.mk (blk_below (g := gb138) (o := .cells #[.int .i64 a0_0, .int .i64 a0_1, .string a0_2, .string a0_3, .slice A0_4 l0_4.length c0_4] 26 (0, 0)) (by (with_reducible repeat (first | refine blk_drewN ?_ _ | refine blk_drew ?_ | refine blk_alloc ?_ _)); exact BK138.out) hb); have n1_ := Aside0.mk (below_step (by repeat (first | (with_reducible first | exact HB.out | apply below_alloc | apply pw_below_drewN | apply below_drew1 | refine below_set ?_ GE138.out) | exact HB.out)) hb); clear BK138; clear HB; have BK138 := n0_; have HB := n1_; clear n0_ n1_; (try clear hb); (try clear hb2); (try clear hk); (try clear hi); have hcz39_0 : w38.cell? ⟨gb138, 0, none⟩ = some (.int .i64 a0_0) := (blk_cell BK138.out 0).trans rfl; have hcz39_1 : w38.cell? ⟨gb138, 1, none⟩ = some (.int .i64 a0_1) := (blk_cell BK138.out 1).trans rfl; have hcz39_2 : w38.cell? ⟨gb138, 2, none⟩ = some (.string a0_2) := (blk_cell BK138.out 2).trans rfl; have hcz39_3 : w38.cell? ⟨gb138, 3, none⟩ = some (.string a0_3) := (blk_cell BK138.out 3).trans rfl; have hcz39_4 : w38.cell? ⟨gb138, 4, none⟩ = some (.slice A0_4 l0_4.length c0_4) := (blk_cell BK138.out 4).trans rfl; have hfz39_0 := blk_frozen BK138.out 0; have hfz39_1 := blk_frozen BK138.out 1; have hfz39_2 := blk_frozen BK138.out 2; have hfz39_3 := blk_frozen BK138.out 3; have hfz39_4 := blk_frozen BK138.out 4) | (go_at_call 51; (with_reducible refine (hearsayref02_Variable.calls a0_0 a0_1 a0_2 t145 _ A36.out).mono ?_); rintro e w40 ⟨rfl, hb⟩; have n0_ := Aside0.mk (blk_below (g := gb138) (o := .cells #[.int .i64 a0_0, .int .i64 a0_1, .string a0_2, .string a0_3, .slice A0_4 l0_4.length c0_4] 26 (0, 0)) (by (with_reducible repeat (first | refine blk_drewN ?_ _ | refine blk_drew ?_ | refine blk_alloc ?_ _)); exact BK138.out) hb); have n1_ := Aside0.mk (below_step (by repeat (first | (with_reducible first | exact HB.out | apply below_alloc | apply pw_below_drewN | apply below_drew1 | refine below_set ?_ GE138.out) | exact HB.out)) hb); clear BK138; clear HB; have BK138 := n0_; have HB := n1_; clear n0_ n1_; (try clear hb); (try clear hb2); (try clear hk); (try clear hi)))
            go_meet
            case rel => exact ⟨_, (!t145), (by first | rfl | (simp; done) | (simp [*]; done)), H', ⟨by first | omega | exact Nat.le_refl _⟩, ⟨by (with_reducible repeat (first | refine blk_drewN ?_ _ | refine blk_drew ?_ | refine blk_alloc ?_ _)); exact BK138.out⟩, ⟨by repeat (first | (with_reducible first | exact HB.out | apply below_alloc | apply pw_below_drewN | apply below_drew1 | refine below_set ?_ GE138.out) | exact HB.out)⟩⟩
      case rest =>
        clear HC7
        try clear c1
        try clear c2
        try clear p2
        try clear c3
        try clear c4
        try clear c4b0
        try clear c4b1
        try clear c6
        try clear c10
        try clear c10b0
        try clear c10b1
        try clear c11
        try clear c11b0
        try clear c11b1
        try clear c12
        try clear c12b0
        try clear c12b1
        try clear c15
        try clear c24
        try clear c28
        try clear c33
        try clear hcz13_0
        try clear hcz13_1
        try clear hcz13_2
        try clear hcz13_3
        try clear hcz13_4
        try clear hcz16_0
        try clear hcz16_1
        try clear hcz16_2
        try clear hcz16_3
        try clear hcz16_4
        try clear hcz19_0
        try clear hcz19_1
        try clear hcz19_2
        try clear hcz19_3
        try clear hcz19_4
        try clear hcz21_0
        try clear hcz21_1
        try clear hcz21_2
        try clear hcz21_3
        try clear hcz21_4
        try clear hcz25_0
        try clear hcz25_1
        try clear hcz25_2
        try clear hcz25_3
        try clear hcz25_4
        try clear hcz28_0
        try clear hcz28_1
        try clear hcz28_2
        try clear hcz28_3
        try clear hcz28_4
        try clear hcz30_0
        try clear hcz30_1
        try clear hcz30_2
        try clear hcz30_3
        try clear hcz30_4
        try clear hcz34_0
        try clear hcz34_1
        try clear hcz34_2
        try clear hcz34_3
        try clear hcz34_4
        try clear hcz37_0
        try clear hcz37_1
        try clear hcz37_2
        try clear hcz37_3
        try clear hcz37_4
        try clear hcz39_0
        try clear hcz39_1
        try clear hcz39_2
        try clear hcz39_3
        try clear hcz39_4
        try clear hcz6_0
        try clear hcz6_1
        try clear hcz6_2
        try clear hcz6_3
        try clear hcz6_4
        try clear hcz9_0
        try clear hcz9_1
        try clear hcz9_2
        try clear hcz9_3
        try clear hcz9_4
        try clear hfz13_0
        try clear hfz13_1
        try clear hfz13_2
        try clear hfz13_3
        try clear hfz13_4
        try clear hfz16_0
        try clear hfz16_1
        try clear hfz16_2
        try clear hfz16_3
        try clear hfz16_4
        try clear hfz19_0
        try clear hfz19_1
        try clear hfz19_2
        try clear hfz19_3
        try clear hfz19_4
        try clear hfz21_0
        try clear hfz21_1
        try clear hfz21_2
        try clear hfz21_3
        try clear hfz21_4
        try clear hfz25_0
        try clear hfz25_1
        try clear hfz25_2
        try clear hfz25_3
        try clear hfz25_4
        try clear hfz28_0
        try clear hfz28_1
        try clear hfz28_2
        try clear hfz28_3
        try clear hfz28_4
        try clear hfz30_0
        try clear hfz30_1
        try clear hfz30_2
        try clear hfz30_3
        try clear hfz30_4
        try clear hfz34_0
        try clear hfz34_1
        try clear hfz34_2
        try clear hfz34_3
        try clear hfz34_4
        try clear hfz37_0
        try clear hfz37_1
        try clear hfz37_2
        try clear hfz37_3
        try clear hfz37_4
        try clear hfz39_0
        try clear hfz39_1
        try clear hfz39_2
        try clear hfz39_3
        try clear hfz39_4
        try clear hfz6_0
        try clear hfz6_1
        try clear hfz6_2
        try clear hfz6_3
        try clear hfz6_4
        try clear hfz9_0
        try clear hfz9_1
        try clear hfz9_2
        try clear hfz9_3
        try clear hfz9_4
        obtain ⟨kq, x27_6, rfl, HA, HJ6, BK138, HB⟩ := hcut
        cases kq with
        | zero => exact absurd HA.out (by simp [hearsayref02_CheckAtom.j0])
        | succ kj6 =>
          have H := HA.out
          clear HA
          simp only [hearsayref02_CheckAtom.j0] at H
          by_cases c41 : x27_6 = true
          · subst c41
            have H1 : (some 23) = some r := by rw [if_pos rfl] at H; exact H
            clear H
            have H := H1
            clear H1
            obtain rfl := Option.some.inj H
            go_wp2
            go_ret
            exact ⟨by first | rfl | (simp [errW_none, errW_some] <;> rfl) | (simp [errW_none, errW_some, bne, show ∀ l_ : List UInt8, (l_ == []) = l_.isEmpty from fun l_ => by cases l_ <;> rfl]; done) | (simp [*, errW_none, errW_some] <;> rfl), by repeat (first | (with_reducible first | exact HB.out | apply below_alloc | apply pw_below_drewN | apply below_drew1 | refine below_set ?_ GE138.out) | exact HB.out)⟩
          · replace c41 := Bool.eq_false_iff.mpr c41
            subst c41
            have H1 : (hearsayref02_CheckAtom.l0 kj6 0 a0_0 a0_1 a0_2 a0_3 l0_4) = some r := by rw [if_neg (show ¬ (false = true) by decide)] at H; exact H
            clear H
            have H := H1
            clear H1
            have H' := Aside0.mk H
            clear H
            go_wp2
            go_loopg [3] kj6 (fun kq v3 w' => ∃ (x3_2 : Int), v3 = .int .i64 x3_2 ∧ Aside0 (hearsayref02_CheckAtom.l0 kq x3_2 a0_0 a0_1 a0_2 a0_3 l0_4 = some r) ∧ Aside0 (kq ≤ kj6) ∧ Aside0 (w'.heap[gb138]? = some (.cells #[.int .i64 a0_0, .int .i64 a0_1, .string a0_2, .string a0_3, (.slice A0_4 l0_4.length c0_4)] 26 (0, 0))) ∧ Aside0 (Below w.heap.size w w'))
            case atStart => exact ⟨(0), (by first | rfl | (simp; done) | (simp [*]; done)), H', ⟨Nat.le_refl _⟩, ⟨by (with_reducible repeat (first | refine blk_drewN ?_ _ | refine blk_drew ?_ | refine blk_alloc ?_ _)); exact BK138.out⟩, ⟨by repeat (first | (with_reducible first | exact HB.out | apply below_alloc | apply pw_below_drewN | apply below_drew1 | refine below_set ?_ GE138.out) | exact HB.out)⟩⟩
            case round =>
              clear H'
              try clear c1
              try clear c2
              try clear p2
              try clear c3
              try clear c4
              try clear c4b0
              try clear c4b1
              try clear c6
              try clear c10
              try clear c10b0
              try clear c10b1
              try clear c11
              try clear c11b0
              try clear c11b1
              try clear c12
              try clear c12b0
              try clear c12b1
              try clear c15
              try clear c24
              try clear c28
              try clear c33
              try clear c41
              try clear hcz13_0
              try clear hcz13_1
              try clear hcz13_2
              try clear hcz13_3
              try clear hcz13_4
              try clear hcz16_0
              try clear hcz16_1
              try clear hcz16_2
              try clear hcz16_3
              try clear hcz16_4
              try clear hcz19_0
              try clear hcz19_1
              try clear hcz19_2
              try clear hcz19_3
              try clear hcz19_4
              try clear hcz21_0
              try clear hcz21_1
              try clear hcz21_2
              try clear hcz21_3
              try clear hcz21_4
              try clear hcz25_0
              try clear hcz25_1
              try clear hcz25_2
              try clear hcz25_3
              try clear hcz25_4
              try clear hcz28_0
              try clear hcz28_1
              try clear hcz28_2
              try clear hcz28_3
              try clear hcz28_4
              try clear hcz30_0
              try clear hcz30_1
              try clear hcz30_2
              try clear hcz30_3
              try clear hcz30_4
              try clear hcz34_0
              try clear hcz34_1
              try clear hcz34_2
              try clear hcz34_3
              try clear hcz34_4
              try clear hcz37_0
              try clear hcz37_1
              try clear hcz37_2
              try clear hcz37_3
              try clear hcz37_4
              try clear hcz39_0
              try clear hcz39_1
              try clear hcz39_2
              try clear hcz39_3
              try clear hcz39_4
              try clear hcz6_0
              try clear hcz6_1
              try clear hcz6_2
              try clear hcz6_3
              try clear hcz6_4
              try clear hcz9_0
              try clear hcz9_1
              try clear hcz9_2
              try clear hcz9_3
              try clear hcz9_4
              try clear hfz13_0
              try clear hfz13_1
              try clear hfz13_2
              try clear hfz13_3
              try clear hfz13_4
              try clear hfz16_0
              try clear hfz16_1
              try clear hfz16_2
              try clear hfz16_3
              try clear hfz16_4
              try clear hfz19_0
              try clear hfz19_1
              try clear hfz19_2
              try clear hfz19_3
              try clear hfz19_4
              try clear hfz21_0
              try clear hfz21_1
              try clear hfz21_2
              try clear hfz21_3
              try clear hfz21_4
              try clear hfz25_0
              try clear hfz25_1
              try clear hfz25_2
              try clear hfz25_3
              try clear hfz25_4
              try clear hfz28_0
              try clear hfz28_1
              try clear hfz28_2
              try clear hfz28_3
              try clear hfz28_4
              try clear hfz30_0
              try clear hfz30_1
              try clear hfz30_2
              try clear hfz30_3
              try clear hfz30_4
              try clear hfz34_0
              try clear hfz34_1
              try clear hfz34_2
              try clear hfz34_3
              try clear hfz34_4
              try clear hfz37_0
              try clear hfz37_1
              try clear hfz37_2
              try clear hfz37_3
              try clear hfz37_4
              try clear hfz39_0
              try clear hfz39_1
              try clear hfz39_2
              try clear hfz39_3
              try clear hfz39_4
              try clear hfz6_0
              try clear hfz6_1
              try clear hfz6_2
              try clear hfz6_3
              try clear hfz6_4
              try clear hfz9_0
              try clear hfz9_1
              try clear hfz9_2
              try clear hfz9_3
              try clear hfz9_4
              try clear p2
              obtain ⟨x3_2, rfl, HA, HK2, BK138, HB⟩ := hrel
              cases gk with
              | zero => exact absurd HA.out (by simp [hearsayref02_CheckAtom.l0])
              | succ k2 =>
                have H := HA.out
                clear HA
                simp only [hearsayref02_CheckAtom.l0] at H
                by_cases c42 : x3_2 < (l0_4.length : Int)
                · rw [if_pos c42] at H
                  have c42b0 : decide (x3_2 < (l0_4.length : Int)) = true := decide_eq_true c42
                  clear c42
                  by_cases c43 : 0 ≤ x3_2
                  · rw [if_pos c43] at H
                    have c43b0 : decide (0 ≤ x3_2) = true := decide_eq_true c43
                    clear c43
                    replace H := Option.bind_eq_some_iff.mp H
                    obtain ⟨t147, A440, H⟩ := H
                    replace H : (if t147 = true then (hearsayref02_CheckAtom.l0 k2 (wrap64 (x3_2 + 1)) a0_0 a0_1 a0_2 a0_3 l0_4) else ((hearsayref02_Variable.f ((rd_T23 l0_4 x3_2).f0) ((rd_T23 l0_4 x3_2).f1) ((rd_T23 l0_4 x3_2).f2)).bind fun t149 => (if t149 = true then (hearsayref02_CheckAtom.l0 k2 (wrap64 (x3_2 + 1)) a0_0 a0_1 a0_2 a0_3 l0_4) else (some 24)))) = some r := H
                    have A44 := Aside0.mk A440
                    clear A440
                    by_cases c45 : t147 = true
                    · subst c45
                      have H1 : (hearsayref02_CheckAtom.l0 k2 (wrap64 (x3_2 + 1)) a0_0 a0_1 a0_2 a0_3 l0_4) = some r := by rw [if_pos rfl] at H; exact H
                      clear H
                      have H := H1
                      clear H1
                      have H' := Aside0.mk H
                      clear H
                      have hcz46_0 : wr.cell? ⟨gb138, 0, none⟩ = some (.int .i64 a0_0) := (blk_cell BK138.out 0).trans rfl
                      have hcz46_1 : wr.cell? ⟨gb138, 1, none⟩ = some (.int .i64 a0_1) := (blk_cell BK138.out 1).trans rfl
                      have hcz46_2 : wr.cell? ⟨gb138, 2, none⟩ = some (.string a0_2) := (blk_cell BK138.out 2).trans rfl
                      have hcz46_3 : wr.cell? ⟨gb138, 3, none⟩ = some (.string a0_3) := (blk_cell BK138.out 3).trans rfl
                      have hcz46_4 : wr.cell? ⟨gb138, 4, none⟩ = some (.slice A0_4 l0_4.length c0_4) := (blk_cell BK138.out 4).trans rfl
                      have hfz46_0 := blk_frozen BK138.out 0
                      have hfz46_1 := blk_frozen BK138.out 1
                      have hfz46_2 := blk_frozen BK138.out 2
                      have hfz46_3 := blk_frozen BK138.out 3
                      have hfz46_4 := blk_frozen BK138.out 4
                      have p146 : 0 ≤ (x3_2 : Int) := of_decide_eq_true (by first | (with_reducible assumption) | assumption)
                      have q146 : x3_2 < (l0_4.length : Int) := of_decide_eq_true (by first | (with_reducible assumption) | assumption)
                      obtain ⟨ad146, e146, hx146_0, hx146_1, hx146_2⟩ := at_T23 HR0_4.out x3_2 p146 q146
                      cases e146
                      replace hx146_0 := (HB.out.cell (World.block_lt_of_cell? w _ hx146_0)).trans hx146_0
                      replace hx146_1 := (HB.out.cell (World.block_lt_of_cell? w _ hx146_1)).trans hx146_1
                      replace hx146_2 := (HB.out.cell (World.block_lt_of_cell? w _ hx146_2)).trans hx146_2
                      replace p146 := eq_true p146
                      replace q146 := eq_true q146
                      go_wp2_with (first | ((with_reducible refine gate_callee (f := 63) rfl ?_); refine goesL_ (some 40) rfl rfl Tryd.func63 (by kernel_rfl) rfl #[.agg #[.int .i64 ((rd_T23 l0_4 x3_2).f0), .int .i64 ((rd_T23 l0_4 x3_2).f1), .string ((rd_T23 l0_4 x3_2).f2)]] rfl (by (try simp only [List.map_toArray, List.map_cons, List.map_nil]); first | done | rfl | (simp only [List.length_drop, List.length_take]; rfl)) ?_; (with_reducible refine (hearsayref02_Const.calls ((rd_T23 l0_4 x3_2).f0) ((rd_T23 l0_4 x3_2).f1) ((rd_T23 l0_4 x3_2).f2) true _ A44.out).mono ?_); rintro e w47 ⟨rfl, hb⟩; refine ⟨_, rfl, ?_⟩; have n0_ := Aside0.mk (blk_below (g := gb138) (o := .cells #[.int .i64 a0_0, .int .i64 a0_1, .string a0_2, .string a0_3, .slice (some ad146) l0_4.length c0_4] 26 (0, 0)) (by (with_reducible repeat (first | refine blk_drewN ?_ _ | refine blk_drew ?_ | refine blk_alloc ?_ _)); exact BK138.out) hb); have n1_ := Aside0.mk (below_step (by repeat (first | (with_reducible first | exact HB.out | apply below_alloc | apply pw_below_drewN | apply below_drew1 | refine below_set ?_ GE138.out) | exact HB.out)) hb); clear BK138; clear HB; have BK138 := n0_; have HB := n1_; clear n0_ n1_; (try clear hb); (try clear hb2); (try clear hk); (try clear hi)))
                      go_roundg k2
                      case measure => have := HJ6.out; have := HK2.out; omega
                      case rel => exact ⟨(wrap64 (x3_2 + 1)), (by first | rfl | (simp; done) | (simp [*]; done)), H', ⟨by have := HJ6.out; have := HK2.out; omega⟩, ⟨by (with_reducible repeat (first | refine blk_drewN ?_ _ | refine blk_drew ?_ | refine blk_alloc ?_ _)); exact BK138.out⟩, ⟨by repeat (first | (with_reducible first | exact HB.out | apply below_alloc | apply pw_below_drewN | apply below_drew1 | refine below_set ?_ GE138.out) | exact HB.out)⟩⟩
                    · replace c45 := Bool.eq_false_iff.mpr c45
                      subst c45
                      have H1 : ((hearsayref02_Variable.f ((rd_T23 l0_4 x3_2).f0) ((rd_T23 l0_4 x3_2).f1) ((rd_T23 l0_4 x3_2).f2)).bind fun t149 => (if t149 = true then (hearsayref02_CheckAtom.l0 k2 (wrap64 (x3_2 + 1)) a0_0 a0_1 a0_2 a0_3 l0_4) else (some 24))) = some r := by rw [if_neg (show ¬ (false = true) by decide)] at H; exact H
                      clear H
                      have H := H1
                      clear H1
                      replace H := Option.bind_eq_some_iff.mp H
                      obtain ⟨t149, A480, H⟩ := H
                      replace H : (if t149 = true then (hearsayref02_CheckAtom.l0 k2 (wrap64 (x3_2 + 1)) a0_0 a0_1 a0_2 a0_3 l0_4) else (some 24)) = some r := H
                      have A48 := Aside0.mk A480
                      clear A480
                      by_cases c49 : t149 = true
                      · subst c49
                        have H1 : (hearsayref02_CheckAtom.l0 k2 (wrap64 (x3_2 + 1)) a0_0 a0_1 a0_2 a0_3 l0_4) = some r := by rw [if_pos rfl] at H; exact H
                        clear H
                        have H := H1
                        clear H1
                        have H' := Aside0.mk H
                        clear H
                        have hcz50_0 : wr.cell? ⟨gb138, 0, none⟩ = some (.int .i64 a0_0) := (blk_cell BK138.out 0).trans rfl
                        have hcz50_1 : wr.cell? ⟨gb138, 1, none⟩ = some (.int .i64 a0_1) := (blk_cell BK138.out 1).trans rfl
                        have hcz50_2 : wr.cell? ⟨gb138, 2, none⟩ = some (.string a0_2) := (blk_cell BK138.out 2).trans rfl
                        have hcz50_3 : wr.cell? ⟨gb138, 3, none⟩ = some (.string a0_3) := (blk_cell BK138.out 3).trans rfl
                        have hcz50_4 : wr.cell? ⟨gb138, 4, none⟩ = some (.slice A0_4 l0_4.length c0_4) := (blk_cell BK138.out 4).trans rfl
                        have hfz50_0 := blk_frozen BK138.out 0
                        have hfz50_1 := blk_frozen BK138.out 1
                        have hfz50_2 := blk_frozen BK138.out 2
                        have hfz50_3 := blk_frozen BK138.out 3
                        have hfz50_4 := blk_frozen BK138.out 4
                        have p146 : 0 ≤ (x3_2 : Int) := of_decide_eq_true (by first | (with_reducible assumption) | assumption)
                        have q146 : x3_2 < (l0_4.length : Int) := of_decide_eq_true (by first | (with_reducible assumption) | assumption)
                        obtain ⟨ad146, e146, hx146_0, hx146_1, hx146_2⟩ := at_T23 HR0_4.out x3_2 p146 q146
                        cases e146
                        replace hx146_0 := (HB.out.cell (World.block_lt_of_cell? w _ hx146_0)).trans hx146_0
                        replace hx146_1 := (HB.out.cell (World.block_lt_of_cell? w _ hx146_1)).trans hx146_1
                        replace hx146_2 := (HB.out.cell (World.block_lt_of_cell? w _ hx146_2)).trans hx146_2
                        replace p146 := eq_true p146
                        replace q146 := eq_true q146
                        go_wp2_with (first | ((with_reducible refine gate_callee (f := 63) rfl ?_); refine goesL_ (some 40) rfl rfl Tryd.func63 (by kernel_rfl) rfl #[.agg #[.int .i64 ((rd_T23 l0_4 x3_2).f0), .int .i64 ((rd_T23 l0_4 x3_2).f1), .string ((rd_T23 l0_4 x3_2).f2)]] rfl (by (try simp only [List.map_toArray, List.map_cons, List.map_nil]); first | done | rfl | (simp only [List.length_drop, List.length_take]; rfl)) ?_; (with_reducible refine (hearsayref02_Const.calls ((rd_T23 l0_4 x3_2).f0) ((rd_T23 l0_4 x3_2).f1) ((rd_T23 l0_4 x3_2).f2) false _ A44.out).mono ?_); rintro e w51 ⟨rfl, hb⟩; refine ⟨_, rfl, ?_⟩; have n0_ := Aside0.mk (blk_below (g := gb138) (o := .cells #[.int .i64 a0_0, .int .i64 a0_1, .string a0_2, .string a0_3, .slice (some ad146) l0_4.length c0_4] 26 (0, 0)) (by (with_reducible repeat (first | refine blk_drewN ?_ _ | refine blk_drew ?_ | refine blk_alloc ?_ _)); exact BK138.out) hb); have n1_ := Aside0.mk (below_step (by repeat (first | (with_reducible first | exact HB.out | apply below_alloc | apply pw_below_drewN | apply below_drew1 | refine below_set ?_ GE138.out) | exact HB.out)) hb); clear BK138; clear HB; have BK138 := n0_; have HB := n1_; clear n0_ n1_; (try clear hb); (try clear hb2); (try clear hk); (try clear hi); have hcz52_0 : w51.cell? ⟨gb138, 0, none⟩ = some (.int .i64 a0_0) := (blk_cell BK138.out 0).trans rfl; have hcz52_1 : w51.cell? ⟨gb138, 1, none⟩ = some (.int .i64 a0_1) := (blk_cell BK138.out 1).trans rfl; have hcz52_2 : w51.cell? ⟨gb138, 2, none⟩ = some (.string a0_2) := (blk_cell BK138.out 2).trans rfl; have hcz52_3 : w51.cell? ⟨gb138, 3, none⟩ = some (.string a0_3) := (blk_cell BK138.out 3).trans rfl; have hcz52_4 : w51.cell? ⟨gb138, 4, none⟩ = some (.slice (some ad146) l0_4.length c0_4) := (blk_cell BK138.out 4).trans rfl; have hfz52_0 := blk_frozen BK138.out 0; have hfz52_1 := blk_frozen BK138.out 1; have hfz52_2 := blk_frozen BK138.out 2; have hfz52_3 := blk_frozen BK138.out 3; have hfz52_4 := blk_frozen BK138.out 4; have p148 : 0 ≤ (x3_2 : Int) := of_decide_eq_true (by first | (with_reducible assumption) | assumption); have q148 : x3_2 < (l0_4.length : Int) := of_decide_eq_true (by first | (with_reducible assumption) | assumption); obtain ⟨ad148, e148, hx148_0, hx148_1, hx148_2⟩ := at_T23 HR0_4.out x3_2 p148 q148; obtain rfl : ad146 = ad148 := (by injection e148); replace hx148_0 := (HB.out.cell (World.block_lt_of_cell? w _ hx148_0)).trans hx148_0; replace hx148_1 := (HB.out.cell (World.block_lt_of_cell? w _ hx148_1)).trans hx148_1; replace hx148_2 := (HB.out.cell (World.block_lt_of_cell? w _ hx148_2)).trans hx148_2; replace p148 := eq_true p148; replace q148 := eq_true q148) | (go_at_call 51; (with_reducible refine (hearsayref02_Variable.calls ((rd_T23 l0_4 x3_2).f0) ((rd_T23 l0_4 x3_2).f1) ((rd_T23 l0_4 x3_2).f2) true _ A48.out).mono ?_); rintro e w53 ⟨rfl, hb⟩; have n0_ := Aside0.mk (blk_below (g := gb138) (o := .cells #[.int .i64 a0_0, .int .i64 a0_1, .string a0_2, .string a0_3, .slice (some ad146) l0_4.length c0_4] 26 (0, 0)) (by (with_reducible repeat (first | refine blk_drewN ?_ _ | refine blk_drew ?_ | refine blk_alloc ?_ _)); exact BK138.out) hb); have n1_ := Aside0.mk (below_step (by repeat (first | (with_reducible first | exact HB.out | apply below_alloc | apply pw_below_drewN | apply below_drew1 | refine below_set ?_ GE138.out) | exact HB.out)) hb); clear BK138; clear HB; have BK138 := n0_; have HB := n1_; clear n0_ n1_; (try clear hb); (try clear hb2); (try clear hk); (try clear hi)))
                        go_roundg k2
                        case measure => have := HJ6.out; have := HK2.out; omega
                        case rel => exact ⟨(wrap64 (x3_2 + 1)), (by first | rfl | (simp; done) | (simp [*]; done)), H', ⟨by have := HJ6.out; have := HK2.out; omega⟩, ⟨by (with_reducible repeat (first | refine blk_drewN ?_ _ | refine blk_drew ?_ | refine blk_alloc ?_ _)); exact BK138.out⟩, ⟨by repeat (first | (with_reducible first | exact HB.out | apply below_alloc | apply pw_below_drewN | apply below_drew1 | refine below_set ?_ GE138.out) | exact HB.out)⟩⟩
                      · replace c49 := Bool.eq_false_iff.mpr c49
                        subst c49
                        have H1 : (some 24) = some r := by rw [if_neg (show ¬ (false = true) by decide)] at H; exact H
                        clear H
                        have H := H1
                        clear H1
                        obtain rfl := Option.some.inj H
                        have hcz54_0 : wr.cell? ⟨gb138, 0, none⟩ = some (.int .i64 a0_0) := (blk_cell BK138.out 0).trans rfl
                        have hcz54_1 : wr.cell? ⟨gb138, 1, none⟩ = some (.int .i64 a0_1) := (blk_cell BK138.out 1).trans rfl
                        have hcz54_2 : wr.cell? ⟨gb138, 2, none⟩ = some (.string a0_2) := (blk_cell BK138.out 2).trans rfl
                        have hcz54_3 : wr.cell? ⟨gb138, 3, none⟩ = some (.string a0_3) := (blk_cell BK138.out 3).trans rfl
                        have hcz54_4 : wr.cell? ⟨gb138, 4, none⟩ = some (.slice A0_4 l0_4.length c0_4) := (blk_cell BK138.out 4).trans rfl
                        have hfz54_0 := blk_frozen BK138.out 0
                        have hfz54_1 := blk_frozen BK138.out 1
                        have hfz54_2 := blk_frozen BK138.out 2
                        have hfz54_3 := blk_frozen BK138.out 3
                        have hfz54_4 := blk_frozen BK138.out 4
                        have p146 : 0 ≤ (x3_2 : Int) := of_decide_eq_true (by first | (with_reducible assumption) | assumption)
                        have q146 : x3_2 < (l0_4.length : Int) := of_decide_eq_true (by first | (with_reducible assumption) | assumption)
                        obtain ⟨ad146, e146, hx146_0, hx146_1, hx146_2⟩ := at_T23 HR0_4.out x3_2 p146 q146
                        cases e146
                        replace hx146_0 := (HB.out.cell (World.block_lt_of_cell? w _ hx146_0)).trans hx146_0
                        replace hx146_1 := (HB.out.cell (World.block_lt_of_cell? w _ hx146_1)).trans hx146_1
                        replace hx146_2 := (HB.out.cell (World.block_lt_of_cell? w _ hx146_2)).trans hx146_2
                        replace p146 := eq_true p146
                        replace q146 := eq_true q146
                        go_wp2_with (first | ((with_reducible refine gate_callee (f := 63) rfl ?_); refine goesL_ (some 40) rfl rfl Tryd.func63 (by kernel_rfl) rfl #[.agg #[.int .i64 ((rd_T23 l0_4 x3_2).f0), .int .i64 ((rd_T23 l0_4 x3_2).f1), .string ((rd_T23 l0_4 x3_2).f2)]] rfl (by (try simp only [List.map_toArray, List.map_cons, List.map_nil]); first | done | rfl | (simp only [List.length_drop, List.length_take]; rfl)) ?_; (with_reducible refine (hearsayref02_Const.calls ((rd_T23 l0_4 x3_2).f0) ((rd_T23 l0_4 x3_2).f1) ((rd_T23 l0_4 x3_2).f2) false _ A44.out).mono ?_); rintro e w55 ⟨rfl, hb⟩; refine ⟨_, rfl, ?_⟩; have n0_ := Aside0.mk (blk_below (g := gb138) (o := .cells #[.int .i64 a0_0, .int .i64 a0_1, .string a0_2, .string a0_3, .slice (some ad146) l0_4.length c0_4] 26 (0, 0)) (by (with_reducible repeat (first | refine blk_drewN ?_ _ | refine blk_drew ?_ | refine blk_alloc ?_ _)); exact BK138.out) hb); have n1_ := Aside0.mk (below_step (by repeat (first | (with_reducible first | exact HB.out | apply below_alloc | apply pw_below_drewN | apply below_drew1 | refine below_set ?_ GE138.out) | exact HB.out)) hb); clear BK138; clear HB; have BK138 := n0_; have HB := n1_; clear n0_ n1_; (try clear hb); (try clear hb2); (try clear hk); (try clear hi); have hcz56_0 : w55.cell? ⟨gb138, 0, none⟩ = some (.int .i64 a0_0) := (blk_cell BK138.out 0).trans rfl; have hcz56_1 : w55.cell? ⟨gb138, 1, none⟩ = some (.int .i64 a0_1) := (blk_cell BK138.out 1).trans rfl; have hcz56_2 : w55.cell? ⟨gb138, 2, none⟩ = some (.string a0_2) := (blk_cell BK138.out 2).trans rfl; have hcz56_3 : w55.cell? ⟨gb138, 3, none⟩ = some (.string a0_3) := (blk_cell BK138.out 3).trans rfl; have hcz56_4 : w55.cell? ⟨gb138, 4, none⟩ = some (.slice (some ad146) l0_4.length c0_4) := (blk_cell BK138.out 4).trans rfl; have hfz56_0 := blk_frozen BK138.out 0; have hfz56_1 := blk_frozen BK138.out 1; have hfz56_2 := blk_frozen BK138.out 2; have hfz56_3 := blk_frozen BK138.out 3; have hfz56_4 := blk_frozen BK138.out 4; have p148 : 0 ≤ (x3_2 : Int) := of_decide_eq_true (by first | (with_reducible assumption) | assumption); have q148 : x3_2 < (l0_4.length : Int) := of_decide_eq_true (by first | (with_reducible assumption) | assumption); obtain ⟨ad148, e148, hx148_0, hx148_1, hx148_2⟩ := at_T23 HR0_4.out x3_2 p148 q148; obtain rfl : ad146 = ad148 := (by injection e148); replace hx148_0 := (HB.out.cell (World.block_lt_of_cell? w _ hx148_0)).trans hx148_0; replace hx148_1 := (HB.out.cell (World.block_lt_of_cell? w _ hx148_1)).trans hx148_1; replace hx148_2 := (HB.out.cell (World.block_lt_of_cell? w _ hx148_2)).trans hx148_2; replace p148 := eq_true p148; replace q148 := eq_true q148) | (go_at_call 51; (with_reducible refine (hearsayref02_Variable.calls ((rd_T23 l0_4 x3_2).f0) ((rd_T23 l0_4 x3_2).f1) ((rd_T23 l0_4 x3_2).f2) false _ A48.out).mono ?_); rintro e w57 ⟨rfl, hb⟩; have n0_ := Aside0.mk (blk_below (g := gb138) (o := .cells #[.int .i64 a0_0, .int .i64 a0_1, .string a0_2, .string a0_3, .slice (some ad146) l0_4.length c0_4] 26 (0, 0)) (by (with_reducible repeat (first | refine blk_drewN ?_ _ | refine blk_drew ?_ | refine blk_alloc ?_ _)); exact BK138.out) hb); have n1_ := Aside0.mk (below_step (by repeat (first | (with_reducible first | exact HB.out | apply below_alloc | apply pw_below_drewN | apply below_drew1 | refine below_set ?_ GE138.out) | exact HB.out)) hb); clear BK138; clear HB; have BK138 := n0_; have HB := n1_; clear n0_ n1_; (try clear hb); (try clear hb2); (try clear hk); (try clear hi)))
                        go_ret
                        exact ⟨by first | rfl | (simp [errW_none, errW_some] <;> rfl) | (simp [errW_none, errW_some, bne, show ∀ l_ : List UInt8, (l_ == []) = l_.isEmpty from fun l_ => by cases l_ <;> rfl]; done) | (simp [*, errW_none, errW_some] <;> rfl), by repeat (first | (with_reducible first | exact HB.out | apply below_alloc | apply pw_below_drewN | apply below_drew1 | refine below_set ?_ GE138.out) | exact HB.out)⟩
                  · rw [if_neg c43] at H
                    exact absurd H (by simp)
                · rw [if_neg c42] at H
                  have c42b0 : decide (x3_2 < (l0_4.length : Int)) = false := decide_eq_false c42
                  clear c42
                  obtain rfl := Option.some.inj H
                  have hcz58_0 : wr.cell? ⟨gb138, 0, none⟩ = some (.int .i64 a0_0) := (blk_cell BK138.out 0).trans rfl
                  have hcz58_1 : wr.cell? ⟨gb138, 1, none⟩ = some (.int .i64 a0_1) := (blk_cell BK138.out 1).trans rfl
                  have hcz58_2 : wr.cell? ⟨gb138, 2, none⟩ = some (.string a0_2) := (blk_cell BK138.out 2).trans rfl
                  have hcz58_3 : wr.cell? ⟨gb138, 3, none⟩ = some (.string a0_3) := (blk_cell BK138.out 3).trans rfl
                  have hcz58_4 : wr.cell? ⟨gb138, 4, none⟩ = some (.slice A0_4 l0_4.length c0_4) := (blk_cell BK138.out 4).trans rfl
                  have hfz58_0 := blk_frozen BK138.out 0
                  have hfz58_1 := blk_frozen BK138.out 1
                  have hfz58_2 := blk_frozen BK138.out 2
                  have hfz58_3 := blk_frozen BK138.out 3
                  have hfz58_4 := blk_frozen BK138.out 4
                  go_wp2
                  go_ret
                  exact ⟨by first | rfl | (simp [errW_none, errW_some] <;> rfl) | (simp [errW_none, errW_some, bne, show ∀ l_ : List UInt8, (l_ == []) = l_.isEmpty from fun l_ => by cases l_ <;> rfl]; done) | (simp [*, errW_none, errW_some] <;> rfl), by repeat (first | (with_reducible first | exact HB.out | apply below_alloc | apply pw_below_drewN | apply below_drew1 | refine below_set ?_ GE138.out) | exact HB.out)⟩
  · replace c3 := Bool.eq_false_iff.mpr c3
    subst c3
    have H1 : (some 21) = some r := by rw [if_neg (show ¬ (false = true) by decide)] at H; exact H
    clear H
    have H := H1
    clear H1
    obtain rfl := Option.some.inj H
    go_enter Tryd.func28, Tryd.ntmps28
    go_wp2_with (first | ((with_reducible refine gate_dst (N := 1) rfl ?_); refine box_event ?hg (N := 1) ?hd (cs := #[.int .i64 a0_0, .int .i64 a0_1, .string a0_2, .string a0_3, .slice A0_4 l0_4.length c0_4]) (t := 26) ?hr ?_; (case hd => rfl); (case hg => rfl); (case hr => first | (go_simp; done) | (go_simp; rfl)); intro gb138 hg w59 hbox hb; have n0_ := Aside0.mk (below_step (by repeat (first | (with_reducible first | exact HB.out | apply below_alloc | apply pw_below_drewN | apply below_drew1) | exact HB.out)) hb); have n1_ := Aside0.mk (hbox); have n2_ := Aside0.mk ((by rw [hg]; exact (below_size (by repeat (first | (with_reducible first | exact HB.out | apply below_alloc | apply pw_below_drewN | apply below_drew1) | exact HB.out))) : w.heap.size ≤ gb138)); have n3_ := Aside0.mk ((by rw [hg]; exact (below_size (by repeat (first | (with_reducible first | exact HB.out | apply below_alloc | apply pw_below_drewN | apply below_drew1) | exact HB.out))) : w.heap.size ≤ gb138)); clear HB; have HB := n0_; have BK138 := n1_; have GW138 := n2_; have GE138 := n3_; clear n0_ n1_ n2_ n3_; clear hb hbox hg; have hcz60_0 : w59.cell? ⟨gb138, 0, none⟩ = some (.int .i64 a0_0) := (blk_cell BK138.out 0).trans rfl; have hcz60_1 : w59.cell? ⟨gb138, 1, none⟩ = some (.int .i64 a0_1) := (blk_cell BK138.out 1).trans rfl; have hcz60_2 : w59.cell? ⟨gb138, 2, none⟩ = some (.string a0_2) := (blk_cell BK138.out 2).trans rfl; have hcz60_3 : w59.cell? ⟨gb138, 3, none⟩ = some (.string a0_3) := (blk_cell BK138.out 3).trans rfl; have hcz60_4 : w59.cell? ⟨gb138, 4, none⟩ = some (.slice A0_4 l0_4.length c0_4) := (blk_cell BK138.out 4).trans rfl; have hfz60_0 := blk_frozen BK138.out 0; have hfz60_1 := blk_frozen BK138.out 1; have hfz60_2 := blk_frozen BK138.out 2; have hfz60_3 := blk_frozen BK138.out 3; have hfz60_4 := blk_frozen BK138.out 4) | ((with_reducible refine gate_callee (f := 61) rfl ?_); refine goesL_ (some 6) rfl rfl Tryd.func61 (by kernel_rfl) rfl #[.string a0_3] rfl (by (try simp only [List.map_toArray, List.map_cons, List.map_nil]); first | done | rfl | (simp only [List.length_drop, List.length_take]; rfl)) ?_; (with_reducible refine (hearsayref02_Name.calls k a0_3 false _ A2.out).mono ?_); rintro e w' ⟨rfl, ⟨nd, rfl⟩⟩; refine ⟨_, rfl, ?_⟩))
    go_ret
    exact ⟨by first | rfl | (simp [errW_none, errW_some] <;> rfl) | (simp [errW_none, errW_some, bne, show ∀ l_ : List UInt8, (l_ == []) = l_.isEmpty from fun l_ => by cases l_ <;> rfl]; done) | (simp [*, errW_none, errW_some] <;> rfl), by repeat (first | (with_reducible first | exact HB.out | apply below_alloc | apply pw_below_drewN | apply below_drew1 | refine below_set ?_ GE138.out) | exact HB.out)⟩

end Go.Proofs.YtdplpcedfkfajaaDoor.T
/- slices.IndexFunc, ContainsFunc and CompareFunc at Term, with function values that may lay memory. -/
set_option linter.unusedVariables false
set_option linter.unusedSimpArgs false
namespace Go.Proofs.YtdplpcedfkfajaaDoor.T
open Go.RowKit Go.Proofs.YtdplpcedfkfajaaDoorW.PrintWords Go.Proofs.YtdplpcedfkfajaaDoorW.PrintLast
/-- What is asked of a function value over a term: it answers p, whatever lies new. -/
def PredB (g : Nat) (p : Tm → Bool) (w : World) : Prop := ∀ (x : Tm) (W : World), okT x = true → Below w.heap.size w W → Calls Tryd.prog g #[.agg #[.int .i64 x.f0, .int .i64 x.f1, .string x.f2]] W fun e W' => e = .returned (.bool (p x)) ∧ Below W.heap.size W W'
theorem any_false {l : List Tm} {p : Tm → Bool} (h : ∀ j : Nat, (hj : j < l.length) → p l[j] = false) : l.any p = false := by
  rw [List.any_eq_false]
  intro x hx
  obtain ⟨j, hj, rfl⟩ := List.getElem_of_mem hx
  simp [h j hj]
set_option maxHeartbeats 4000000 in
set_option maxRecDepth 100000 in
theorem idxF_calls (p : Tm → Bool) (g : Nat) (eg : ∀ args w, (callFunc g args).run Tryd.prog w = .ok (.enter g args) w) (A0 : Option Addr) (c0 : Nat) (l : List Tm) (w : World)
    (hr0 : Kd.C k23 w A0 l.length l) (hc0 : l.length ≤ c0) (ol : l.all okT = true) (hs : l.length ≤ 9223372036854775807) (hp : PredB g p w) :
    Calls Tryd.prog 92 #[.slice A0 l.length c0, .func (.func g) #[] #[]] w fun e w' => ∃ r : Int, e = .returned (.int .i64 r) ∧ decide (0 ≤ r) = l.any p ∧ Below w.heap.size w w' := by
  have hu23 := Tryd.underlying23
  have HR0 := Aside0.mk hr0
  have HC0 := Aside0.mk hc0
  have OL := Aside0.mk ol
  have HS := Aside0.mk hs
  have HP := Aside0.mk hp
  clear hr0 hc0 ol hs hp
  have HB := Aside0.mk (Below.refl w.heap.size w)
  go_enter Tryd.func92, Tryd.ntmps92
  go_wp2
  go_loopg [5, 8] l.length (fun gg _ s8 wr => ∃ i : Int, Aside0 (0 ≤ i ∧ i ≤ (l.length : Int) ∧ (l.length : Int) - i ≤ (gg : Int)) ∧ s8 = .int .i64 i ∧ Aside0 (∀ j : Nat, (hj : j < l.length) → (j : Int) < i → p l[j] = false) ∧ Aside0 (Below w.heap.size w wr))
  case atStart => exact ⟨0, ⟨by omega, by omega, by omega⟩, rfl, ⟨fun j _ hj => absurd hj (by omega)⟩, HB⟩
  case round =>
    obtain ⟨i, HK, rfl, HA, HB1⟩ := hrel
    by_cases hlt : i < (l.length : Int)
    · have hltb : decide (i < (l.length : Int)) = true := decide_eq_true hlt
      have hpos : 0 ≤ i := HK.out.1
      have HLT := Aside0.mk (show i.toNat < l.length by omega)
      have HPOS := Aside0.mk hpos
      obtain ⟨ad, e0, h0, h1, h2⟩ := at_T23 HR0.out i hpos hlt
      cases e0
      replace h0 := (HB1.out.cell (World.block_lt_of_cell? w _ h0)).trans h0
      replace h1 := (HB1.out.cell (World.block_lt_of_cell? w _ h1)).trans h1
      replace h2 := (HB1.out.cell (World.block_lt_of_cell? w _ h2)).trans h2
      have HY := Aside0.mk (show l[i.toNat]'HLT.out = rd_T23 l i from by simp [rd_T23, List.getD_eq_getElem?_getD, List.getElem?_eq_getElem HLT.out])
      have hok : okT (rd_T23 l i) = true := by rw [← HY.out]; exact List.all_eq_true.1 OL.out _ (List.getElem_mem HLT.out)
      have hcall := HP.out (rd_T23 l i) wr hok HB1.out
      have hwr : wrap64 (i + 1) = i + 1 := by have := HS.out; simp only [wrap64]; omega
      have hlt' := eq_true hlt
      have hpos' := eq_true hpos
      clear hok hlt hpos
      cases hq : p (rd_T23 l i) with
      | true =>
        rw [hq] at hcall
        have HQ := Aside0.mk hq
        clear hq
        go_wp2_with (go_at_fn g; refine hcall.mono ?_; rintro e w' ⟨rfl, hb⟩; have HB2 := Aside0.mk (below_step HB1.out hb); clear hb)
        go_ret
        refine ⟨i, rfl, ?_, HB2.out⟩
        rw [show l.any p = true from List.any_eq_true.2 ⟨rd_T23 l i, by rw [← HY.out]; exact List.getElem_mem HLT.out, HQ.out⟩]
        simpa using HPOS.out
      | false =>
        rw [hq] at hcall
        have HQ := Aside0.mk hq
        clear hq
        go_wp2_with (go_at_fn g; refine hcall.mono ?_; rintro e w' ⟨rfl, hb⟩; have HB2 := Aside0.mk (below_step HB1.out hb); clear hb)
        go_roundg (l.length - (i.toNat + 1))
        case measure => have := HK.out; have := HLT.out; omega
        case rel =>
          refine ⟨i + 1, ⟨by have := HPOS.out; omega, by have := HLT.out; omega, by have := HLT.out; have := HPOS.out; omega⟩, by first | rfl | (simp [hwr]; done) | go_num, ⟨fun j hj hjk => ?_⟩, HB2⟩
          by_cases e : (j : Int) = i
          · subst e; have := HY.out; simp at this; rw [this]; exact HQ.out
          · exact HA.out j hj (by omega)
    · have hltb : decide (i < (l.length : Int)) = false := decide_eq_false hlt
      have HN := Aside0.mk hlt
      clear hlt
      go_wp2
      go_ret
      refine ⟨-1, rfl, ?_, HB1.out⟩
      rw [any_false (fun j hj => HA.out j hj (by have := HN.out; omega))]
      rfl
set_option maxHeartbeats 4000000 in
set_option maxRecDepth 100000 in
theorem hasF_calls (p : Tm → Bool) (g : Nat) (eg : ∀ args w, (callFunc g args).run Tryd.prog w = .ok (.enter g args) w) (A0 : Option Addr) (c0 : Nat) (l : List Tm) (w : World)
    (hr0 : Kd.C k23 w A0 l.length l) (hc0 : l.length ≤ c0) (ol : l.all okT = true) (hs : l.length ≤ 9223372036854775807) (hp : PredB g p w) :
    Calls Tryd.prog 56 #[.slice A0 l.length c0, .func (.func g) #[] #[]] w fun e w' => e = .returned (.bool (l.any p)) ∧ Below w.heap.size w w' := by
  have hcall := idxF_calls p g eg A0 c0 l w hr0 hc0 ol hs hp
  clear hr0 hc0 ol hs hp
  go_enter Tryd.func56, Tryd.ntmps56
  go_wp2_with (go_at_call 92; refine hcall.mono ?_; rintro e w' ⟨r, rfl, hd, hb⟩; have HD := Aside0.mk hd; have HB := Aside0.mk hb; clear hd hb)
  go_ret
  exact ⟨by first | rw [← HD.out]; rfl | simp [← HD.out], HB.out⟩
/-- What slices.CompareFunc answers. -/
def cmpL (cf : Tm → Tm → Int) : List Tm → List Tm → Int
  | [], [] => 0
  | [], _ :: _ => -1
  | _ :: _, [] => 1
  | x :: l, y :: m => if cf x y = 0 then cmpL cf l m else cf x y
end Go.Proofs.YtdplpcedfkfajaaDoor.T
/- Orders: plain lemmas. -/
namespace Go.Proofs.YtdplpcedfkfajaaDoor.Hs
open Go.Lib

/-- A comparison that is a total order: -1, 0, 1. -/
structure Cmp {α : Type} (c : α → α → Int) : Prop where
  rng : ∀ a b, c a b = -1 ∨ c a b = 0 ∨ c a b = 1
  anti : ∀ a b, c b a = - c a b
  eq : ∀ a b, c a b = 0 ↔ a = b
  trans : ∀ a b d, c a b < 0 → c b d < 0 → c a d < 0

namespace Cmp
variable {α : Type} {c : α → α → Int}
theorem le_trans (h : Cmp c) {a b d : α} (h1 : c a b ≤ 0) (h2 : c b d ≤ 0) : c a d ≤ 0 := by
  by_cases e1 : c a b = 0
  · rw [(h.eq a b).1 e1]; exact h2
  · by_cases e2 : c b d = 0
    · rw [← (h.eq b d).1 e2]; exact h1
    · have := h.trans a b d (by omega) (by omega); omega
end Cmp

/-- cmp.Or -/
def orI (x y : Int) : Int := if x ≠ 0 then x else y

/-- slices.CompareFunc -/
def cmpList {α : Type} (c : α → α → Int) : List α → List α → Int
  | [], [] => 0
  | [], _ :: _ => -1
  | _ :: _, [] => 1
  | a :: aa, b :: bs => if c a b ≠ 0 then c a b else cmpList c aa bs

theorem Cmp.list {α : Type} {c : α → α → Int} (h : Cmp c) : Cmp (cmpList c) where
  rng a := by
    induction a with
    | nil => intro b; cases b <;> simp [cmpList]
    | cons x a ih =>
      intro b
      cases b with
      | nil => simp [cmpList]
      | cons y b => unfold cmpList; split; · exact h.rng x y
                    · exact ih b
  anti a := by
    induction a with
    | nil => intro b; cases b <;> simp [cmpList]
    | cons x a ih =>
      intro b
      cases b with
      | nil => simp [cmpList]
      | cons y b =>
        unfold cmpList
        rw [h.anti x y, ih b]
        split <;> split <;> omega
  eq a := by
    induction a with
    | nil => intro b; cases b <;> simp [cmpList]
    | cons x a ih =>
      intro b
      cases b with
      | nil => simp [cmpList]
      | cons y b =>
        unfold cmpList
        by_cases e : c x y = 0
        · rw [if_neg (by simp [e]), ih b, (h.eq x y).1 e]; simp
        · rw [if_pos (by simpa using e)]
          constructor
          · intro e'; exact absurd e' e
          · intro e'; injection e' with e1 _; exact absurd ((h.eq x y).2 e1) e
  trans a := by
    induction a with
    | nil => intro b d; cases b <;> cases d <;> simp [cmpList]
    | cons x a ih =>
      intro b d
      cases b with
      | nil => simp [cmpList]
      | cons y b =>
        cases d with
        | nil => simp [cmpList]
        | cons z d =>
          unfold cmpList
          intro p q
          by_cases h1 : c x y = 0
          · have e1 := (h.eq _ _).1 h1
            rw [if_neg (by simp [h1])] at p
            by_cases h2 : c y z = 0
            · rw [if_neg (by simp [h2])] at q
              rw [e1, if_neg (by simp [h2])]
              exact ih b d p q
            · rw [if_pos (by simpa using h2)] at q
              rw [e1, if_pos (by simpa using h2)]; exact q
          · rw [if_pos (by simpa using h1)] at p
            by_cases h2 : c y z = 0
            · rw [← (h.eq _ _).1 h2, if_pos (by simpa using h1)]; exact p
            · rw [if_pos (by simpa using h2)] at q
              have := h.trans _ _ _ p q
              rw [if_pos (by omega)]; exact this

end Go.Proofs.YtdplpcedfkfajaaDoor.Hs
/- Is a term a variable: in closed form. -/
namespace Go.Proofs.YtdplpcedfkfajaaDoor.T
open Go.RowKit Go.Proofs.YtdplpcedfkfajaaDoorW.PrintWords
theorem var_f (t : Tm) : term_Variable.f t.f0 t.f1 t.f2 = some (isVar t) := by
  unfold term_Variable.f isVar
  by_cases h : t.f0 = 3
  · by_cases h2 : 0 ≤ t.f1 <;> simp [h, h2]
  · simp [h]
end Go.Proofs.YtdplpcedfkfajaaDoor.T
/- What the printed functions of package term answer, in closed form. -/
set_option linter.unusedVariables false
set_option linter.unusedSimpArgs false
namespace Go.Proofs.YtdplpcedfkfajaaDoor.T
open Go.RowKit Go.Lib Go.Proofs.YtdplpcedfkfajaaDoorW.PrintWords Go.Proofs.YtdplpcedfkfajaaDoor.Hs
def isConst (t : Tm) : Bool := (decide (t.f0 = 1) && (t.f2.toList == ([] : List UInt8))) || (decide (t.f0 = 2) && (decide (t.f1 = 0) && decide ((t.f2.size : Int) ≤ 64)))
theorem const_f (t : Tm) : term_Const.f t.f0 t.f1 t.f2 = some (isConst t) := by
  unfold term_Const.f isConst
  by_cases h : t.f0 = 1
  · simp [h]
  · by_cases h2 : t.f0 = 2
    · by_cases h3 : t.f1 = 0 <;> simp [h2, h3]
    · simp [h, h2]
def isPrin (t : Tm) : Bool := isConst t && (decide (t.f0 = 2) && (t.f2.toList != ([] : List UInt8)))
theorem prin_f (t : Tm) : term_Principal.f t.f0 t.f1 t.f2 = some (isPrin t) := by
  unfold term_Principal.f isPrin
  rw [const_f]
  cases isConst t
  · simp
  · by_cases h : t.f0 = 2 <;> simp [h]
def cmpT (a b : Tm) : Int := orI (compareInt a.f0 b.f0) (orI (compareInt a.f1 b.f1) (compareBytes a.f2.toList b.f2.toList))
end Go.Proofs.YtdplpcedfkfajaaDoor.T
/- Calls of slices.ContainsFunc and CompareFunc with package term's own functions. -/
set_option linter.unusedVariables false
set_option linter.unusedSimpArgs false
namespace Go.Proofs.YtdplpcedfkfajaaDoor.T
open Go.RowKit Go.Proofs.YtdplpcedfkfajaaDoorW.PrintWords Go.Proofs.YtdplpcedfkfajaaDoorW.PrintLast
def badT (t : Tm) : Bool := !isConst t && !isVar t
set_option maxRecDepth 100000 in
theorem bad_calls (x : Tm) (w : World) :
    Calls Tryd.prog 57 #[.agg #[.int .i64 x.f0, .int .i64 x.f1, .string x.f2]] w fun e w' => e = .returned (.bool (badT x)) ∧ Below w.heap.size w w' := by
  have hu23 := Tryd.underlying23
  have HB := Aside0.mk (Below.refl w.heap.size w)
  cases hc : isConst x with
  | true =>
    have A1 := Aside0.mk ((const_f x).trans (congrArg some hc))
    have E := Aside0.mk (show badT x = false by simp [badT, hc])
    clear hc
    go_enter Tryd.func57, Tryd.ntmps57
    go_wp2_with (first | ((with_reducible refine gate_dst (N := 1) rfl ?_); refine box_event ?hg (N := 1) ?hd (cs := #[.int .i64 x.f0, .int .i64 x.f1, .string x.f2]) (t := 23) ?hr ?_; (case hd => rfl); (case hg => rfl); (case hr => first | (go_simp; done) | (go_simp; rfl)); intro b1 hb1 w1 hbox hb; have K1 := Aside0.mk hbox; have HB1 := Aside0.mk hb; clear hb1 hbox hb; have p0 := (blk_cell K1.out 0).trans rfl; have p1 := (blk_cell K1.out 1).trans rfl; have p2 := (blk_cell K1.out 2).trans rfl) | (go_at_call 58; (with_reducible refine (term_Const.calls x.f0 x.f1 x.f2 true _ A1.out).mono ?_); rintro e w2 ⟨rfl, hb⟩; have HB2 := Aside0.mk (below_step HB1.out hb); clear hb p0 p1 p2) | go_in)
    go_ret
    exact ⟨by rw [E.out]; rfl, HB2.out⟩
  | false =>
    have A1 := Aside0.mk ((const_f x).trans (congrArg some hc))
    have A2 := Aside0.mk (var_f x)
    have E := Aside0.mk (show badT x = !isVar x by simp [badT, hc])
    clear hc
    go_enter Tryd.func57, Tryd.ntmps57
    go_wp2_with (first | ((with_reducible refine gate_dst (N := 1) rfl ?_); refine box_event ?hg (N := 1) ?hd (cs := #[.int .i64 x.f0, .int .i64 x.f1, .string x.f2]) (t := 23) ?hr ?_; (case hd => rfl); (case hg => rfl); (case hr => first | (go_simp; done) | (go_simp; rfl)); intro b1 hb1 w1 hbox hb; have K1 := Aside0.mk hbox; have HB1 := Aside0.mk hb; clear hb1 hbox hb; have p0 := (blk_cell K1.out 0).trans rfl; have p1 := (blk_cell K1.out 1).trans rfl; have p2 := (blk_cell K1.out 2).trans rfl) | (go_at_call 58; (with_reducible refine (term_Const.calls x.f0 x.f1 x.f2 false _ A1.out).mono ?_); rintro e w2 ⟨rfl, hb⟩; have HB2 := Aside0.mk (below_step HB1.out hb); have K2 := Aside0.mk (blk_below K1.out hb); clear hb p0 p1 p2; have q0 := (blk_cell K2.out 0).trans rfl; have q1 := (blk_cell K2.out 1).trans rfl; have q2 := (blk_cell K2.out 2).trans rfl) | (go_at_call 55; (with_reducible refine (term_Variable.calls x.f0 x.f1 x.f2 (isVar x) _ A2.out).mono ?_); rintro e w3 ⟨rfl, hb⟩; have HB3 := Aside0.mk (below_step HB2.out hb); clear hb) | go_in)
    go_ret
    exact ⟨by rw [E.out]; rfl, HB3.out⟩
def slices_ContainsFunc_bad.f (l : List Tm) : Option Bool := if (l.all okT && decide (l.length < smallN)) = true then some (l.any badT) else none
def slices_ContainsFunc_var.f (l : List Tm) : Option Bool := if (l.all okT && decide (l.length < smallN)) = true then some (l.any isVar) else none
def slices_CompareFunc_term.f (l m : List Tm) : Option Int := if (l.all okT && (m.all okT && decide (l.length ≤ 9223372036854775807))) = true then some (cmpL cmpT l m) else none
theorem slices_ContainsFunc_bad.calls (A0 : Option Addr) (c0 : Nat) (l0 : List Tm) (r : Bool) (w : World) (hr0 : Kd.C k23 w A0 l0.length l0) (hc0 : l0.length ≤ c0) (h : slices_ContainsFunc_bad.f l0 = some r) :
    Calls Tryd.prog 56 #[.slice A0 l0.length c0, .func (.func 57) #[] #[]] w fun e w' => e = .returned (.bool r) ∧ Below w.heap.size w w' := by
  unfold slices_ContainsFunc_bad.f at h
  by_cases hc : (l0.all okT && decide (l0.length < smallN)) = true
  · rw [if_pos hc] at h
    obtain rfl := Option.some.inj h
    simp only [Bool.and_eq_true, decide_eq_true_eq] at hc
    exact hasF_calls badT 57 (enters_of Tryd.func57 (by kernel_rfl) rfl) A0 c0 l0 w hr0 hc0 hc.1 (by have := hc.2; simp only [smallN] at this; omega) (fun x W _ _ => bad_calls x W)
  · rw [if_neg hc] at h; cases h
theorem slices_ContainsFunc_var.calls (A0 : Option Addr) (c0 : Nat) (l0 : List Tm) (r : Bool) (w : World) (hr0 : Kd.C k23 w A0 l0.length l0) (hc0 : l0.length ≤ c0) (h : slices_ContainsFunc_var.f l0 = some r) :
    Calls Tryd.prog 56 #[.slice A0 l0.length c0, .func (.func 55) #[] #[]] w fun e w' => e = .returned (.bool r) ∧ Below w.heap.size w w' := by
  unfold slices_ContainsFunc_var.f at h
  by_cases hc : (l0.all okT && decide (l0.length < smallN)) = true
  · rw [if_pos hc] at h
    obtain rfl := Option.some.inj h
    simp only [Bool.and_eq_true, decide_eq_true_eq] at hc
    exact hasF_calls isVar 55 (enters_of Tryd.func55 (by kernel_rfl) rfl) A0 c0 l0 w hr0 hc0 hc.1 (by have := hc.2; simp only [smallN] at this; omega) (fun x W _ _ => term_Variable.calls x.f0 x.f1 x.f2 (isVar x) W (var_f x))
  · rw [if_neg hc] at h; cases h
end Go.Proofs.YtdplpcedfkfajaaDoor.T
