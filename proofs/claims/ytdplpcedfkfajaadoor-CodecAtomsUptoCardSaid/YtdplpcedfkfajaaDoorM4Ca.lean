/- T8; PureB; PureC; PureAt; GCAtom; GCSmall: texts of this claim, laid together. -/
import Derived.Test.YtdplpcedfkfajaaDoorM0Ca
import Derived.Test.YtdplpcedfkfajaaDoorM1Ca
import Derived.Test.YtdplpcedfkfajaaDoorM3Ca
import Derived.Test.YtdplpcedfkfajaaDoorM2Ca
-- By a program of this session (wip/tools/myprint.py), out of the translation.
namespace Go.Proofs.YtdplpcedfkfajaaDoor.T
open Go.RowKit Go.Proofs.YtdplpcedfkfajaaDoorW.PrintWords Go.Proofs.YtdplpcedfkfajaaDoorW.PrintLast Go.Proofs.YtdplpcedfkfajaaDoorW.PrintMore
attribute [local go_sem] max2_int min2_int max_two min_two max_three min_three max_four min_four   -- for this text's walks alone
set_option linter.unusedVariables false
set_option linter.unusedSimpArgs false

-- GIVEN: a call of function 56 with function [57] (slices_ContainsFunc_bad)

-- NOT PRINTED: function 56 (api_Term_56)

def term_CheckAtom.j0 : Nat → Bool → Int → Int → ByteArray → ByteArray → List (S23) → Option (Int)
  | 0, _, _, _, _, _, _ => none
  | k + 1, x13, x108000, x108001, x108002, x108003, x108004 => if x13 = true then (some 23) else ((slices_ContainsFunc_bad.f x108004).bind fun t115 => (if t115 = true then (some 24) else (some 0)))
def term_CheckAtom.f (k : Nat) (a0_0 : Int) (a0_1 : Int) (a0_2 : ByteArray) (a0_3 : ByteArray) (l0_4 : List (S23)) : Option (Int) := (term_name.f k a0_3).bind fun t108 => (if t108 = true then (if (l0_4.length : Int) > 8 then (some 22) else (if a0_0 = 0 then (if a0_1 = 0 then (if a0_2.toList = ([] : List UInt8) then (term_CheckAtom.j0 k false a0_0 a0_1 a0_2 a0_3 l0_4) else ((term_Principal.f a0_0 a0_1 a0_2).bind fun t109 => (if t109 = true then (term_CheckAtom.j0 k false a0_0 a0_1 a0_2 a0_3 l0_4) else ((term_Variable.f a0_0 a0_1 a0_2).bind fun t110 => (term_CheckAtom.j0 k (!t110) a0_0 a0_1 a0_2 a0_3 l0_4))))) else ((term_Principal.f a0_0 a0_1 a0_2).bind fun t111 => (if t111 = true then (term_CheckAtom.j0 k false a0_0 a0_1 a0_2 a0_3 l0_4) else ((term_Variable.f a0_0 a0_1 a0_2).bind fun t112 => (term_CheckAtom.j0 k (!t112) a0_0 a0_1 a0_2 a0_3 l0_4))))) else ((term_Principal.f a0_0 a0_1 a0_2).bind fun t113 => (if t113 = true then (term_CheckAtom.j0 k false a0_0 a0_1 a0_2 a0_3 l0_4) else ((term_Variable.f a0_0 a0_1 a0_2).bind fun t114 => (term_CheckAtom.j0 k (!t114) a0_0 a0_1 a0_2 a0_3 l0_4)))))) else (some 21))
set_option maxHeartbeats 8000000 in
set_option maxRecDepth 100000 in
theorem term_CheckAtom.calls (k : Nat) (a0_0 : Int) (a0_1 : Int) (a0_2 : ByteArray) (a0_3 : ByteArray) (A0_4 : Option Addr) (c0_4 : Nat) (l0_4 : List (S23)) (r : Int) (w : World) (hr0_4 : Kd.C k23 w A0_4 l0_4.length l0_4) (hc0_4 : l0_4.length ≤ c0_4) (hLD2 : Laid2 w) (h : term_CheckAtom.f k a0_0 a0_1 a0_2 a0_3 l0_4 = some r) :
    Calls Tryd.prog 26 #[.agg #[.int .i64 a0_0, .int .i64 a0_1, .string a0_2, .string a0_3, .slice A0_4 l0_4.length c0_4]] w fun e w' => e = .returned (.int .i64 r) ∧ Below w.heap.size w w' := by
  have hu26 := Tryd.underlying26
  have hu23 := Tryd.underlying23
  have HLD2 := Aside0.mk hLD2
  clear hLD2
  have HR0_4 := Aside0.mk hr0_4
  have HC0_4 := Aside0.mk hc0_4
  clear hr0_4 hc0_4
  have HB := Aside0.mk (Below.refl w.heap.size w)
  have H : ((term_name.f k a0_3).bind fun t108 => (if t108 = true then (if (l0_4.length : Int) > 8 then (some 22) else (if a0_0 = 0 then (if a0_1 = 0 then (if a0_2.toList = ([] : List UInt8) then (term_CheckAtom.j0 k false a0_0 a0_1 a0_2 a0_3 l0_4) else ((term_Principal.f a0_0 a0_1 a0_2).bind fun t109 => (if t109 = true then (term_CheckAtom.j0 k false a0_0 a0_1 a0_2 a0_3 l0_4) else ((term_Variable.f a0_0 a0_1 a0_2).bind fun t110 => (term_CheckAtom.j0 k (!t110) a0_0 a0_1 a0_2 a0_3 l0_4))))) else ((term_Principal.f a0_0 a0_1 a0_2).bind fun t111 => (if t111 = true then (term_CheckAtom.j0 k false a0_0 a0_1 a0_2 a0_3 l0_4) else ((term_Variable.f a0_0 a0_1 a0_2).bind fun t112 => (term_CheckAtom.j0 k (!t112) a0_0 a0_1 a0_2 a0_3 l0_4))))) else ((term_Principal.f a0_0 a0_1 a0_2).bind fun t113 => (if t113 = true then (term_CheckAtom.j0 k false a0_0 a0_1 a0_2 a0_3 l0_4) else ((term_Variable.f a0_0 a0_1 a0_2).bind fun t114 => (term_CheckAtom.j0 k (!t114) a0_0 a0_1 a0_2 a0_3 l0_4)))))) else (some 21))) = some r := h
  clear h
  replace H := Option.bind_eq_some_iff.mp H
  obtain ⟨t108, A20, H⟩ := H
  replace H : (if t108 = true then (if (l0_4.length : Int) > 8 then (some 22) else (if a0_0 = 0 then (if a0_1 = 0 then (if a0_2.toList = ([] : List UInt8) then (term_CheckAtom.j0 k false a0_0 a0_1 a0_2 a0_3 l0_4) else ((term_Principal.f a0_0 a0_1 a0_2).bind fun t109 => (if t109 = true then (term_CheckAtom.j0 k false a0_0 a0_1 a0_2 a0_3 l0_4) else ((term_Variable.f a0_0 a0_1 a0_2).bind fun t110 => (term_CheckAtom.j0 k (!t110) a0_0 a0_1 a0_2 a0_3 l0_4))))) else ((term_Principal.f a0_0 a0_1 a0_2).bind fun t111 => (if t111 = true then (term_CheckAtom.j0 k false a0_0 a0_1 a0_2 a0_3 l0_4) else ((term_Variable.f a0_0 a0_1 a0_2).bind fun t112 => (term_CheckAtom.j0 k (!t112) a0_0 a0_1 a0_2 a0_3 l0_4))))) else ((term_Principal.f a0_0 a0_1 a0_2).bind fun t113 => (if t113 = true then (term_CheckAtom.j0 k false a0_0 a0_1 a0_2 a0_3 l0_4) else ((term_Variable.f a0_0 a0_1 a0_2).bind fun t114 => (term_CheckAtom.j0 k (!t114) a0_0 a0_1 a0_2 a0_3 l0_4)))))) else (some 21)) = some r := H
  have A2 := Aside0.mk A20
  clear A20
  by_cases c3 : t108 = true
  · subst c3
    have H1 : (if (l0_4.length : Int) > 8 then (some 22) else (if a0_0 = 0 then (if a0_1 = 0 then (if a0_2.toList = ([] : List UInt8) then (term_CheckAtom.j0 k false a0_0 a0_1 a0_2 a0_3 l0_4) else ((term_Principal.f a0_0 a0_1 a0_2).bind fun t109 => (if t109 = true then (term_CheckAtom.j0 k false a0_0 a0_1 a0_2 a0_3 l0_4) else ((term_Variable.f a0_0 a0_1 a0_2).bind fun t110 => (term_CheckAtom.j0 k (!t110) a0_0 a0_1 a0_2 a0_3 l0_4))))) else ((term_Principal.f a0_0 a0_1 a0_2).bind fun t111 => (if t111 = true then (term_CheckAtom.j0 k false a0_0 a0_1 a0_2 a0_3 l0_4) else ((term_Variable.f a0_0 a0_1 a0_2).bind fun t112 => (term_CheckAtom.j0 k (!t112) a0_0 a0_1 a0_2 a0_3 l0_4))))) else ((term_Principal.f a0_0 a0_1 a0_2).bind fun t113 => (if t113 = true then (term_CheckAtom.j0 k false a0_0 a0_1 a0_2 a0_3 l0_4) else ((term_Variable.f a0_0 a0_1 a0_2).bind fun t114 => (term_CheckAtom.j0 k (!t114) a0_0 a0_1 a0_2 a0_3 l0_4)))))) = some r := by rw [if_pos rfl] at H; exact H
    clear H
    have H := H1
    clear H1
    by_cases c4 : (l0_4.length : Int) > 8
    · rw [if_pos c4] at H
      have c4b0 : decide (8 < (l0_4.length : Int)) = true := decide_eq_true c4
      have c4b1 : decide (8 < l0_4.length) = true := decide_eq_true (by omega)
      clear c4
      obtain rfl := Option.some.inj H
      go_enter Tryd.func26, Tryd.ntmps26
      go_wp2_with (first | ((with_reducible refine gate_dst (N := 1) rfl ?_); refine box_event ?hg (N := 1) ?hd (cs := #[.int .i64 a0_0, .int .i64 a0_1, .string a0_2, .string a0_3, .slice A0_4 l0_4.length c0_4]) (t := 26) ?hr ?_; (case hd => rfl); (case hg => rfl); (case hr => first | (go_simp; done) | (go_simp; rfl)); intro gb107 hg w5 hbox hb; have n0_ := Aside0.mk (below_step (by repeat (first | (with_reducible first | exact HB.out | apply below_alloc | apply pw_below_drewN | apply below_drew1) | exact HB.out)) hb); have n1_ := Aside0.mk (hbox); have n2_ := Aside0.mk ((by rw [hg]; exact (below_size (by repeat (first | (with_reducible first | exact HB.out | apply below_alloc | apply pw_below_drewN | apply below_drew1) | exact HB.out))) : w.heap.size ≤ gb107)); have n3_ := Aside0.mk ((by rw [hg]; exact (below_size (by repeat (first | (with_reducible first | exact HB.out | apply below_alloc | apply pw_below_drewN | apply below_drew1) | exact HB.out))) : w.heap.size ≤ gb107)); clear HB; have HB := n0_; have BK107 := n1_; have GW107 := n2_; have GE107 := n3_; clear n0_ n1_ n2_ n3_; clear hb hbox hg; have hcz6_0 : w5.cell? ⟨gb107, 0, none⟩ = some (.int .i64 a0_0) := (blk_cell BK107.out 0).trans rfl; have hcz6_1 : w5.cell? ⟨gb107, 1, none⟩ = some (.int .i64 a0_1) := (blk_cell BK107.out 1).trans rfl; have hcz6_2 : w5.cell? ⟨gb107, 2, none⟩ = some (.string a0_2) := (blk_cell BK107.out 2).trans rfl; have hcz6_3 : w5.cell? ⟨gb107, 3, none⟩ = some (.string a0_3) := (blk_cell BK107.out 3).trans rfl; have hcz6_4 : w5.cell? ⟨gb107, 4, none⟩ = some (.slice A0_4 l0_4.length c0_4) := (blk_cell BK107.out 4).trans rfl; have hfz6_0 := blk_frozen BK107.out 0; have hfz6_1 := blk_frozen BK107.out 1; have hfz6_2 := blk_frozen BK107.out 2; have hfz6_3 := blk_frozen BK107.out 3; have hfz6_4 := blk_frozen BK107.out 4) | ((with_reducible refine gate_callee (f := 53) rfl ?_); refine goesL_ (some 6) rfl rfl Tryd.func53 (by kernel_rfl) rfl #[.string a0_3] rfl (by (try simp only [List.map_toArray, List.map_cons, List.map_nil]); first | done | rfl | (simp only [List.length_drop, List.length_take]; rfl)) ?_; (with_reducible refine (term_name.calls k a0_3 true _ A2.out).mono ?_); rintro e w' ⟨rfl, ⟨nd, rfl⟩⟩; refine ⟨_, rfl, ?_⟩))
      go_ret
      exact ⟨by first | rfl | (simp [errW_none, errW_some] <;> rfl) | (simp [errW_none, errW_some, bne, show ∀ l_ : List UInt8, (l_ == []) = l_.isEmpty from fun l_ => by cases l_ <;> rfl]; done) | (simp [*, errW_none, errW_some] <;> rfl), by repeat (first | (with_reducible first | exact HB.out | apply below_alloc | apply pw_below_drewN | apply below_drew1 | refine below_set ?_ GE107.out) | exact HB.out)⟩
    · rw [if_neg c4] at H
      have c4b0 : decide (8 < (l0_4.length : Int)) = false := decide_eq_false c4
      have c4b1 : decide (8 < l0_4.length) = false := decide_eq_false (by omega)
      clear c4
      have HC7 := Aside0.mk H
      clear H
      go_enter Tryd.func26, Tryd.ntmps26
      go_upto_region 5 with (first | ((with_reducible refine gate_dst (N := 1) rfl ?_); refine box_event ?hg (N := 1) ?hd (cs := #[.int .i64 a0_0, .int .i64 a0_1, .string a0_2, .string a0_3, .slice A0_4 l0_4.length c0_4]) (t := 26) ?hr ?_; (case hd => rfl); (case hg => rfl); (case hr => first | (go_simp; done) | (go_simp; rfl)); intro gb107 hg w8 hbox hb; have n0_ := Aside0.mk (below_step (by repeat (first | (with_reducible first | exact HB.out | apply below_alloc | apply pw_below_drewN | apply below_drew1) | exact HB.out)) hb); have n1_ := Aside0.mk (hbox); have n2_ := Aside0.mk ((by rw [hg]; exact (below_size (by repeat (first | (with_reducible first | exact HB.out | apply below_alloc | apply pw_below_drewN | apply below_drew1) | exact HB.out))) : w.heap.size ≤ gb107)); have n3_ := Aside0.mk ((by rw [hg]; exact (below_size (by repeat (first | (with_reducible first | exact HB.out | apply below_alloc | apply pw_below_drewN | apply below_drew1) | exact HB.out))) : w.heap.size ≤ gb107)); clear HB; have HB := n0_; have BK107 := n1_; have GW107 := n2_; have GE107 := n3_; clear n0_ n1_ n2_ n3_; clear hb hbox hg; have hcz9_0 : w8.cell? ⟨gb107, 0, none⟩ = some (.int .i64 a0_0) := (blk_cell BK107.out 0).trans rfl; have hcz9_1 : w8.cell? ⟨gb107, 1, none⟩ = some (.int .i64 a0_1) := (blk_cell BK107.out 1).trans rfl; have hcz9_2 : w8.cell? ⟨gb107, 2, none⟩ = some (.string a0_2) := (blk_cell BK107.out 2).trans rfl; have hcz9_3 : w8.cell? ⟨gb107, 3, none⟩ = some (.string a0_3) := (blk_cell BK107.out 3).trans rfl; have hcz9_4 : w8.cell? ⟨gb107, 4, none⟩ = some (.slice A0_4 l0_4.length c0_4) := (blk_cell BK107.out 4).trans rfl; have hfz9_0 := blk_frozen BK107.out 0; have hfz9_1 := blk_frozen BK107.out 1; have hfz9_2 := blk_frozen BK107.out 2; have hfz9_3 := blk_frozen BK107.out 3; have hfz9_4 := blk_frozen BK107.out 4) | ((with_reducible refine gate_callee (f := 53) rfl ?_); refine goesL_ (some 6) rfl rfl Tryd.func53 (by kernel_rfl) rfl #[.string a0_3] rfl (by (try simp only [List.map_toArray, List.map_cons, List.map_nil]); first | done | rfl | (simp only [List.length_drop, List.length_take]; rfl)) ?_; (with_reducible refine (term_name.calls k a0_3 true _ A2.out).mono ?_); rintro e w' ⟨rfl, ⟨nd, rfl⟩⟩; refine ⟨_, rfl, ?_⟩))
      (try simp only [Act.put, List.setIfInBounds_toArray, List.set_cons_zero, List.set_cons_succ])
      go_cut [13] (fun v13 wc => ∃ (kq : Nat) (x13_6 : Bool), v13 = .bool x13_6 ∧ Aside0 (term_CheckAtom.j0 kq x13_6 a0_0 a0_1 a0_2 a0_3 l0_4 = some r) ∧ Aside0 (kq ≤ k) ∧ Aside0 (wc.heap[gb107]? = some (.cells #[.int .i64 a0_0, .int .i64 a0_1, .string a0_2, .string a0_3, (.slice A0_4 l0_4.length c0_4)] 26 (0, 0))) ∧ Aside0 (Below w.heap.size w wc))
      case first =>
        have H := HC7.out
        clear HC7
        by_cases c10 : a0_0 = 0
        · rw [if_pos c10] at H
          have c10b0 : (a0_0 == 0) = true := beq_iff_eq.mpr c10
          have c10b1 : (a0_0 != 0) = false := bne_eq_false_iff_eq.mpr c10
          clear c10
          (first | rw [c10b0] | (simp only [i64_w, i32_w]; rw [c10b0]) | skip)
          by_cases c11 : a0_1 = 0
          · rw [if_pos c11] at H
            have c11b0 : (a0_1 == 0) = true := beq_iff_eq.mpr c11
            have c11b1 : (a0_1 != 0) = false := bne_eq_false_iff_eq.mpr c11
            clear c11
            by_cases c12 : a0_2.toList = ([] : List UInt8)
            · rw [if_pos c12] at H
              have c12b0 : (a0_2.toList == ([] : List UInt8)) = true := beq_iff_eq.mpr c12
              have c12b1 : (a0_2.toList != ([] : List UInt8)) = false := bne_eq_false_iff_eq.mpr c12
              clear c12
              have H' := Aside0.mk H
              clear H
              have hcz13_0 : w8.cell? ⟨gb107, 0, none⟩ = some (.int .i64 a0_0) := (blk_cell BK107.out 0).trans rfl
              have hcz13_1 : w8.cell? ⟨gb107, 1, none⟩ = some (.int .i64 a0_1) := (blk_cell BK107.out 1).trans rfl
              have hcz13_2 : w8.cell? ⟨gb107, 2, none⟩ = some (.string a0_2) := (blk_cell BK107.out 2).trans rfl
              have hcz13_3 : w8.cell? ⟨gb107, 3, none⟩ = some (.string a0_3) := (blk_cell BK107.out 3).trans rfl
              have hcz13_4 : w8.cell? ⟨gb107, 4, none⟩ = some (.slice A0_4 l0_4.length c0_4) := (blk_cell BK107.out 4).trans rfl
              have hfz13_0 := blk_frozen BK107.out 0
              have hfz13_1 := blk_frozen BK107.out 1
              have hfz13_2 := blk_frozen BK107.out 2
              have hfz13_3 := blk_frozen BK107.out 3
              have hfz13_4 := blk_frozen BK107.out 4
              have hglz14_0 : w8.cell? ⟨2, 0, none⟩ = some (.int .i64 0) := (Laid2.up HLD2.out (by repeat (first | (with_reducible first | exact HB.out | apply below_alloc | apply pw_below_drewN | apply below_drew1 | refine below_set ?_ GE107.out) | exact HB.out))).1
              have hglz14_1 : w8.cell? ⟨2, 1, none⟩ = some (.int .i64 0) := (Laid2.up HLD2.out (by repeat (first | (with_reducible first | exact HB.out | apply below_alloc | apply pw_below_drewN | apply below_drew1 | refine below_set ?_ GE107.out) | exact HB.out))).2.1
              have hglz14_2 : w8.cell? ⟨2, 2, none⟩ = some (.string (⟨#[]⟩ : ByteArray)) := (Laid2.up HLD2.out (by repeat (first | (with_reducible first | exact HB.out | apply below_alloc | apply pw_below_drewN | apply below_drew1 | refine below_set ?_ GE107.out) | exact HB.out))).2.2
              go_wp2
              go_meet
              case rel => exact ⟨_, (false), (by first | rfl | (simp; done) | (simp [*]; done)), H', ⟨by first | omega | exact Nat.le_refl _⟩, ⟨by (with_reducible repeat (first | refine blk_drewN ?_ _ | refine blk_drew ?_ | refine blk_alloc ?_ _)); exact BK107.out⟩, ⟨by repeat (first | (with_reducible first | exact HB.out | apply below_alloc | apply pw_below_drewN | apply below_drew1 | refine below_set ?_ GE107.out) | exact HB.out)⟩⟩
            · rw [if_neg c12] at H
              have c12b0 : (a0_2.toList == ([] : List UInt8)) = false := beq_eq_false_iff_ne.mpr c12
              have c12b1 : (a0_2.toList != ([] : List UInt8)) = true := bne_iff_ne.mpr c12
              replace H := Option.bind_eq_some_iff.mp H
              obtain ⟨t109, A150, H⟩ := H
              replace H : (if t109 = true then (term_CheckAtom.j0 k false a0_0 a0_1 a0_2 a0_3 l0_4) else ((term_Variable.f a0_0 a0_1 a0_2).bind fun t110 => (term_CheckAtom.j0 k (!t110) a0_0 a0_1 a0_2 a0_3 l0_4))) = some r := H
              have A15 := Aside0.mk A150
              clear A150
              by_cases c16 : t109 = true
              · subst c16
                have H1 : (term_CheckAtom.j0 k false a0_0 a0_1 a0_2 a0_3 l0_4) = some r := by rw [if_pos rfl] at H; exact H
                clear H
                have H := H1
                clear H1
                have H' := Aside0.mk H
                clear H
                have hcz17_0 : w8.cell? ⟨gb107, 0, none⟩ = some (.int .i64 a0_0) := (blk_cell BK107.out 0).trans rfl
                have hcz17_1 : w8.cell? ⟨gb107, 1, none⟩ = some (.int .i64 a0_1) := (blk_cell BK107.out 1).trans rfl
                have hcz17_2 : w8.cell? ⟨gb107, 2, none⟩ = some (.string a0_2) := (blk_cell BK107.out 2).trans rfl
                have hcz17_3 : w8.cell? ⟨gb107, 3, none⟩ = some (.string a0_3) := (blk_cell BK107.out 3).trans rfl
                have hcz17_4 : w8.cell? ⟨gb107, 4, none⟩ = some (.slice A0_4 l0_4.length c0_4) := (blk_cell BK107.out 4).trans rfl
                have hfz17_0 := blk_frozen BK107.out 0
                have hfz17_1 := blk_frozen BK107.out 1
                have hfz17_2 := blk_frozen BK107.out 2
                have hfz17_3 := blk_frozen BK107.out 3
                have hfz17_4 := blk_frozen BK107.out 4
                have hglz18_0 : w8.cell? ⟨2, 0, none⟩ = some (.int .i64 0) := (Laid2.up HLD2.out (by repeat (first | (with_reducible first | exact HB.out | apply below_alloc | apply pw_below_drewN | apply below_drew1 | refine below_set ?_ GE107.out) | exact HB.out))).1
                have hglz18_1 : w8.cell? ⟨2, 1, none⟩ = some (.int .i64 0) := (Laid2.up HLD2.out (by repeat (first | (with_reducible first | exact HB.out | apply below_alloc | apply pw_below_drewN | apply below_drew1 | refine below_set ?_ GE107.out) | exact HB.out))).2.1
                have hglz18_2 : w8.cell? ⟨2, 2, none⟩ = some (.string (⟨#[]⟩ : ByteArray)) := (Laid2.up HLD2.out (by repeat (first | (with_reducible first | exact HB.out | apply below_alloc | apply pw_below_drewN | apply below_drew1 | refine below_set ?_ GE107.out) | exact HB.out))).2.2
                go_wp2_with (first | (go_at_call 54; (with_reducible refine (term_Principal.calls a0_0 a0_1 a0_2 true _ A15.out).mono ?_); rintro e w19 ⟨rfl, hb⟩; have n0_ := Aside0.mk (blk_below (g := gb107) (o := .cells #[.int .i64 a0_0, .int .i64 a0_1, .string a0_2, .string a0_3, .slice A0_4 l0_4.length c0_4] 26 (0, 0)) (by (with_reducible repeat (first | refine blk_drewN ?_ _ | refine blk_drew ?_ | refine blk_alloc ?_ _)); exact BK107.out) hb); have n1_ := Aside0.mk (below_step (by repeat (first | (with_reducible first | exact HB.out | apply below_alloc | apply pw_below_drewN | apply below_drew1 | refine below_set ?_ GE107.out) | exact HB.out)) hb); clear BK107; clear HB; have BK107 := n0_; have HB := n1_; clear n0_ n1_; (try clear hb); (try clear hb2); (try clear hk); (try clear hi)))
                go_meet
                case rel => exact ⟨_, (false), (by first | rfl | (simp; done) | (simp [*]; done)), H', ⟨by first | omega | exact Nat.le_refl _⟩, ⟨by (with_reducible repeat (first | refine blk_drewN ?_ _ | refine blk_drew ?_ | refine blk_alloc ?_ _)); exact BK107.out⟩, ⟨by repeat (first | (with_reducible first | exact HB.out | apply below_alloc | apply pw_below_drewN | apply below_drew1 | refine below_set ?_ GE107.out) | exact HB.out)⟩⟩
              · replace c16 := Bool.eq_false_iff.mpr c16
                subst c16
                have H1 : ((term_Variable.f a0_0 a0_1 a0_2).bind fun t110 => (term_CheckAtom.j0 k (!t110) a0_0 a0_1 a0_2 a0_3 l0_4)) = some r := by rw [if_neg (show ¬ (false = true) by decide)] at H; exact H
                clear H
                have H := H1
                clear H1
                replace H := Option.bind_eq_some_iff.mp H
                obtain ⟨t110, A200, H⟩ := H
                replace H : (term_CheckAtom.j0 k (!t110) a0_0 a0_1 a0_2 a0_3 l0_4) = some r := H
                have A20 := Aside0.mk A200
                clear A200
                have H' := Aside0.mk H
                clear H
                have hcz21_0 : w8.cell? ⟨gb107, 0, none⟩ = some (.int .i64 a0_0) := (blk_cell BK107.out 0).trans rfl
                have hcz21_1 : w8.cell? ⟨gb107, 1, none⟩ = some (.int .i64 a0_1) := (blk_cell BK107.out 1).trans rfl
                have hcz21_2 : w8.cell? ⟨gb107, 2, none⟩ = some (.string a0_2) := (blk_cell BK107.out 2).trans rfl
                have hcz21_3 : w8.cell? ⟨gb107, 3, none⟩ = some (.string a0_3) := (blk_cell BK107.out 3).trans rfl
                have hcz21_4 : w8.cell? ⟨gb107, 4, none⟩ = some (.slice A0_4 l0_4.length c0_4) := (blk_cell BK107.out 4).trans rfl
                have hfz21_0 := blk_frozen BK107.out 0
                have hfz21_1 := blk_frozen BK107.out 1
                have hfz21_2 := blk_frozen BK107.out 2
                have hfz21_3 := blk_frozen BK107.out 3
                have hfz21_4 := blk_frozen BK107.out 4
                have hglz22_0 : w8.cell? ⟨2, 0, none⟩ = some (.int .i64 0) := (Laid2.up HLD2.out (by repeat (first | (with_reducible first | exact HB.out | apply below_alloc | apply pw_below_drewN | apply below_drew1 | refine below_set ?_ GE107.out) | exact HB.out))).1
                have hglz22_1 : w8.cell? ⟨2, 1, none⟩ = some (.int .i64 0) := (Laid2.up HLD2.out (by repeat (first | (with_reducible first | exact HB.out | apply below_alloc | apply pw_below_drewN | apply below_drew1 | refine below_set ?_ GE107.out) | exact HB.out))).2.1
                have hglz22_2 : w8.cell? ⟨2, 2, none⟩ = some (.string (⟨#[]⟩ : ByteArray)) := (Laid2.up HLD2.out (by repeat (first | (with_reducible first | exact HB.out | apply below_alloc | apply pw_below_drewN | apply below_drew1 | refine below_set ?_ GE107.out) | exact HB.out))).2.2
                go_wp2_with (first | (go_at_call 54; (with_reducible refine (term_Principal.calls a0_0 a0_1 a0_2 false _ A15.out).mono ?_); rintro e w23 ⟨rfl, hb⟩; have n0_ := Aside0.mk (blk_below (g := gb107) (o := .cells #[.int .i64 a0_0, .int .i64 a0_1, .string a0_2, .string a0_3, .slice A0_4 l0_4.length c0_4] 26 (0, 0)) (by (with_reducible repeat (first | refine blk_drewN ?_ _ | refine blk_drew ?_ | refine blk_alloc ?_ _)); exact BK107.out) hb); have n1_ := Aside0.mk (below_step (by repeat (first | (with_reducible first | exact HB.out | apply below_alloc | apply pw_below_drewN | apply below_drew1 | refine below_set ?_ GE107.out) | exact HB.out)) hb); clear BK107; clear HB; have BK107 := n0_; have HB := n1_; clear n0_ n1_; (try clear hb); (try clear hb2); (try clear hk); (try clear hi); have hcz24_0 : w23.cell? ⟨gb107, 0, none⟩ = some (.int .i64 a0_0) := (blk_cell BK107.out 0).trans rfl; have hcz24_1 : w23.cell? ⟨gb107, 1, none⟩ = some (.int .i64 a0_1) := (blk_cell BK107.out 1).trans rfl; have hcz24_2 : w23.cell? ⟨gb107, 2, none⟩ = some (.string a0_2) := (blk_cell BK107.out 2).trans rfl; have hcz24_3 : w23.cell? ⟨gb107, 3, none⟩ = some (.string a0_3) := (blk_cell BK107.out 3).trans rfl; have hcz24_4 : w23.cell? ⟨gb107, 4, none⟩ = some (.slice A0_4 l0_4.length c0_4) := (blk_cell BK107.out 4).trans rfl; have hfz24_0 := blk_frozen BK107.out 0; have hfz24_1 := blk_frozen BK107.out 1; have hfz24_2 := blk_frozen BK107.out 2; have hfz24_3 := blk_frozen BK107.out 3; have hfz24_4 := blk_frozen BK107.out 4) | (go_at_call 55; (with_reducible refine (term_Variable.calls a0_0 a0_1 a0_2 t110 _ A20.out).mono ?_); rintro e w25 ⟨rfl, hb⟩; have n0_ := Aside0.mk (blk_below (g := gb107) (o := .cells #[.int .i64 a0_0, .int .i64 a0_1, .string a0_2, .string a0_3, .slice A0_4 l0_4.length c0_4] 26 (0, 0)) (by (with_reducible repeat (first | refine blk_drewN ?_ _ | refine blk_drew ?_ | refine blk_alloc ?_ _)); exact BK107.out) hb); have n1_ := Aside0.mk (below_step (by repeat (first | (with_reducible first | exact HB.out | apply below_alloc | apply pw_below_drewN | apply below_drew1 | refine below_set ?_ GE107.out) | exact HB.out)) hb); clear BK107; clear HB; have BK107 := n0_; have HB := n1_; clear n0_ n1_; (try clear hb); (try clear hb2); (try clear hk); (try clear hi)))
                go_meet
                case rel => exact ⟨_, (!t110), (by first | rfl | (simp; done) | (simp [*]; done)), H', ⟨by first | omega | exact Nat.le_refl _⟩, ⟨by (with_reducible repeat (first | refine blk_drewN ?_ _ | refine blk_drew ?_ | refine blk_alloc ?_ _)); exact BK107.out⟩, ⟨by repeat (first | (with_reducible first | exact HB.out | apply below_alloc | apply pw_below_drewN | apply below_drew1 | refine below_set ?_ GE107.out) | exact HB.out)⟩⟩
          · rw [if_neg c11] at H
            have c11b0 : (a0_1 == 0) = false := beq_eq_false_iff_ne.mpr c11
            have c11b1 : (a0_1 != 0) = true := bne_iff_ne.mpr c11
            replace H := Option.bind_eq_some_iff.mp H
            obtain ⟨t111, A260, H⟩ := H
            replace H : (if t111 = true then (term_CheckAtom.j0 k false a0_0 a0_1 a0_2 a0_3 l0_4) else ((term_Variable.f a0_0 a0_1 a0_2).bind fun t112 => (term_CheckAtom.j0 k (!t112) a0_0 a0_1 a0_2 a0_3 l0_4))) = some r := H
            have A26 := Aside0.mk A260
            clear A260
            by_cases c27 : t111 = true
            · subst c27
              have H1 : (term_CheckAtom.j0 k false a0_0 a0_1 a0_2 a0_3 l0_4) = some r := by rw [if_pos rfl] at H; exact H
              clear H
              have H := H1
              clear H1
              have H' := Aside0.mk H
              clear H
              have hcz28_0 : w8.cell? ⟨gb107, 0, none⟩ = some (.int .i64 a0_0) := (blk_cell BK107.out 0).trans rfl
              have hcz28_1 : w8.cell? ⟨gb107, 1, none⟩ = some (.int .i64 a0_1) := (blk_cell BK107.out 1).trans rfl
              have hcz28_2 : w8.cell? ⟨gb107, 2, none⟩ = some (.string a0_2) := (blk_cell BK107.out 2).trans rfl
              have hcz28_3 : w8.cell? ⟨gb107, 3, none⟩ = some (.string a0_3) := (blk_cell BK107.out 3).trans rfl
              have hcz28_4 : w8.cell? ⟨gb107, 4, none⟩ = some (.slice A0_4 l0_4.length c0_4) := (blk_cell BK107.out 4).trans rfl
              have hfz28_0 := blk_frozen BK107.out 0
              have hfz28_1 := blk_frozen BK107.out 1
              have hfz28_2 := blk_frozen BK107.out 2
              have hfz28_3 := blk_frozen BK107.out 3
              have hfz28_4 := blk_frozen BK107.out 4
              have hglz29_0 : w8.cell? ⟨2, 0, none⟩ = some (.int .i64 0) := (Laid2.up HLD2.out (by repeat (first | (with_reducible first | exact HB.out | apply below_alloc | apply pw_below_drewN | apply below_drew1 | refine below_set ?_ GE107.out) | exact HB.out))).1
              have hglz29_1 : w8.cell? ⟨2, 1, none⟩ = some (.int .i64 0) := (Laid2.up HLD2.out (by repeat (first | (with_reducible first | exact HB.out | apply below_alloc | apply pw_below_drewN | apply below_drew1 | refine below_set ?_ GE107.out) | exact HB.out))).2.1
              have hglz29_2 : w8.cell? ⟨2, 2, none⟩ = some (.string (⟨#[]⟩ : ByteArray)) := (Laid2.up HLD2.out (by repeat (first | (with_reducible first | exact HB.out | apply below_alloc | apply pw_below_drewN | apply below_drew1 | refine below_set ?_ GE107.out) | exact HB.out))).2.2
              go_wp2_with (first | (go_at_call 54; (with_reducible refine (term_Principal.calls a0_0 a0_1 a0_2 true _ A26.out).mono ?_); rintro e w30 ⟨rfl, hb⟩; have n0_ := Aside0.mk (blk_below (g := gb107) (o := .cells #[.int .i64 a0_0, .int .i64 a0_1, .string a0_2, .string a0_3, .slice A0_4 l0_4.length c0_4] 26 (0, 0)) (by (with_reducible repeat (first | refine blk_drewN ?_ _ | refine blk_drew ?_ | refine blk_alloc ?_ _)); exact BK107.out) hb); have n1_ := Aside0.mk (below_step (by repeat (first | (with_reducible first | exact HB.out | apply below_alloc | apply pw_below_drewN | apply below_drew1 | refine below_set ?_ GE107.out) | exact HB.out)) hb); clear BK107; clear HB; have BK107 := n0_; have HB := n1_; clear n0_ n1_; (try clear hb); (try clear hb2); (try clear hk); (try clear hi)))
              go_meet
              case rel => exact ⟨_, (false), (by first | rfl | (simp; done) | (simp [*]; done)), H', ⟨by first | omega | exact Nat.le_refl _⟩, ⟨by (with_reducible repeat (first | refine blk_drewN ?_ _ | refine blk_drew ?_ | refine blk_alloc ?_ _)); exact BK107.out⟩, ⟨by repeat (first | (with_reducible first | exact HB.out | apply below_alloc | apply pw_below_drewN | apply below_drew1 | refine below_set ?_ GE107.out) | exact HB.out)⟩⟩
            · replace c27 := Bool.eq_false_iff.mpr c27
              subst c27
              have H1 : ((term_Variable.f a0_0 a0_1 a0_2).bind fun t112 => (term_CheckAtom.j0 k (!t112) a0_0 a0_1 a0_2 a0_3 l0_4)) = some r := by rw [if_neg (show ¬ (false = true) by decide)] at H; exact H
              clear H
              have H := H1
              clear H1
              replace H := Option.bind_eq_some_iff.mp H
              obtain ⟨t112, A310, H⟩ := H
              replace H : (term_CheckAtom.j0 k (!t112) a0_0 a0_1 a0_2 a0_3 l0_4) = some r := H
              have A31 := Aside0.mk A310
              clear A310
              have H' := Aside0.mk H
              clear H
              have hcz32_0 : w8.cell? ⟨gb107, 0, none⟩ = some (.int .i64 a0_0) := (blk_cell BK107.out 0).trans rfl
              have hcz32_1 : w8.cell? ⟨gb107, 1, none⟩ = some (.int .i64 a0_1) := (blk_cell BK107.out 1).trans rfl
              have hcz32_2 : w8.cell? ⟨gb107, 2, none⟩ = some (.string a0_2) := (blk_cell BK107.out 2).trans rfl
              have hcz32_3 : w8.cell? ⟨gb107, 3, none⟩ = some (.string a0_3) := (blk_cell BK107.out 3).trans rfl
              have hcz32_4 : w8.cell? ⟨gb107, 4, none⟩ = some (.slice A0_4 l0_4.length c0_4) := (blk_cell BK107.out 4).trans rfl
              have hfz32_0 := blk_frozen BK107.out 0
              have hfz32_1 := blk_frozen BK107.out 1
              have hfz32_2 := blk_frozen BK107.out 2
              have hfz32_3 := blk_frozen BK107.out 3
              have hfz32_4 := blk_frozen BK107.out 4
              have hglz33_0 : w8.cell? ⟨2, 0, none⟩ = some (.int .i64 0) := (Laid2.up HLD2.out (by repeat (first | (with_reducible first | exact HB.out | apply below_alloc | apply pw_below_drewN | apply below_drew1 | refine below_set ?_ GE107.out) | exact HB.out))).1
              have hglz33_1 : w8.cell? ⟨2, 1, none⟩ = some (.int .i64 0) := (Laid2.up HLD2.out (by repeat (first | (with_reducible first | exact HB.out | apply below_alloc | apply pw_below_drewN | apply below_drew1 | refine below_set ?_ GE107.out) | exact HB.out))).2.1
              have hglz33_2 : w8.cell? ⟨2, 2, none⟩ = some (.string (⟨#[]⟩ : ByteArray)) := (Laid2.up HLD2.out (by repeat (first | (with_reducible first | exact HB.out | apply below_alloc | apply pw_below_drewN | apply below_drew1 | refine below_set ?_ GE107.out) | exact HB.out))).2.2
              go_wp2_with (first | (go_at_call 54; (with_reducible refine (term_Principal.calls a0_0 a0_1 a0_2 false _ A26.out).mono ?_); rintro e w34 ⟨rfl, hb⟩; have n0_ := Aside0.mk (blk_below (g := gb107) (o := .cells #[.int .i64 a0_0, .int .i64 a0_1, .string a0_2, .string a0_3, .slice A0_4 l0_4.length c0_4] 26 (0, 0)) (by (with_reducible repeat (first | refine blk_drewN ?_ _ | refine blk_drew ?_ | refine blk_alloc ?_ _)); exact BK107.out) hb); have n1_ := Aside0.mk (below_step (by repeat (first | (with_reducible first | exact HB.out | apply below_alloc | apply pw_below_drewN | apply below_drew1 | refine below_set ?_ GE107.out) | exact HB.out)) hb); clear BK107; clear HB; have BK107 := n0_; have HB := n1_; clear n0_ n1_; (try clear hb); (try clear hb2); (try clear hk); (try clear hi); have hcz35_0 : w34.cell? ⟨gb107, 0, none⟩ = some (.int .i64 a0_0) := (blk_cell BK107.out 0).trans rfl; have hcz35_1 : w34.cell? ⟨gb107, 1, none⟩ = some (.int .i64 a0_1) := (blk_cell BK107.out 1).trans rfl; have hcz35_2 : w34.cell? ⟨gb107, 2, none⟩ = some (.string a0_2) := (blk_cell BK107.out 2).trans rfl; have hcz35_3 : w34.cell? ⟨gb107, 3, none⟩ = some (.string a0_3) := (blk_cell BK107.out 3).trans rfl; have hcz35_4 : w34.cell? ⟨gb107, 4, none⟩ = some (.slice A0_4 l0_4.length c0_4) := (blk_cell BK107.out 4).trans rfl; have hfz35_0 := blk_frozen BK107.out 0; have hfz35_1 := blk_frozen BK107.out 1; have hfz35_2 := blk_frozen BK107.out 2; have hfz35_3 := blk_frozen BK107.out 3; have hfz35_4 := blk_frozen BK107.out 4) | (go_at_call 55; (with_reducible refine (term_Variable.calls a0_0 a0_1 a0_2 t112 _ A31.out).mono ?_); rintro e w36 ⟨rfl, hb⟩; have n0_ := Aside0.mk (blk_below (g := gb107) (o := .cells #[.int .i64 a0_0, .int .i64 a0_1, .string a0_2, .string a0_3, .slice A0_4 l0_4.length c0_4] 26 (0, 0)) (by (with_reducible repeat (first | refine blk_drewN ?_ _ | refine blk_drew ?_ | refine blk_alloc ?_ _)); exact BK107.out) hb); have n1_ := Aside0.mk (below_step (by repeat (first | (with_reducible first | exact HB.out | apply below_alloc | apply pw_below_drewN | apply below_drew1 | refine below_set ?_ GE107.out) | exact HB.out)) hb); clear BK107; clear HB; have BK107 := n0_; have HB := n1_; clear n0_ n1_; (try clear hb); (try clear hb2); (try clear hk); (try clear hi)))
              go_meet
              case rel => exact ⟨_, (!t112), (by first | rfl | (simp; done) | (simp [*]; done)), H', ⟨by first | omega | exact Nat.le_refl _⟩, ⟨by (with_reducible repeat (first | refine blk_drewN ?_ _ | refine blk_drew ?_ | refine blk_alloc ?_ _)); exact BK107.out⟩, ⟨by repeat (first | (with_reducible first | exact HB.out | apply below_alloc | apply pw_below_drewN | apply below_drew1 | refine below_set ?_ GE107.out) | exact HB.out)⟩⟩
        · rw [if_neg c10] at H
          have c10b0 : (a0_0 == 0) = false := beq_eq_false_iff_ne.mpr c10
          have c10b1 : (a0_0 != 0) = true := bne_iff_ne.mpr c10
          (first | rw [c10b0] | (simp only [i64_w, i32_w]; rw [c10b0]) | skip)
          replace H := Option.bind_eq_some_iff.mp H
          obtain ⟨t113, A370, H⟩ := H
          replace H : (if t113 = true then (term_CheckAtom.j0 k false a0_0 a0_1 a0_2 a0_3 l0_4) else ((term_Variable.f a0_0 a0_1 a0_2).bind fun t114 => (term_CheckAtom.j0 k (!t114) a0_0 a0_1 a0_2 a0_3 l0_4))) = some r := H
          have A37 := Aside0.mk A370
          clear A370
          by_cases c38 : t113 = true
          · subst c38
            have H1 : (term_CheckAtom.j0 k false a0_0 a0_1 a0_2 a0_3 l0_4) = some r := by rw [if_pos rfl] at H; exact H
            clear H
            have H := H1
            clear H1
            have H' := Aside0.mk H
            clear H
            have hcz39_0 : w8.cell? ⟨gb107, 0, none⟩ = some (.int .i64 a0_0) := (blk_cell BK107.out 0).trans rfl
            have hcz39_1 : w8.cell? ⟨gb107, 1, none⟩ = some (.int .i64 a0_1) := (blk_cell BK107.out 1).trans rfl
            have hcz39_2 : w8.cell? ⟨gb107, 2, none⟩ = some (.string a0_2) := (blk_cell BK107.out 2).trans rfl
            have hcz39_3 : w8.cell? ⟨gb107, 3, none⟩ = some (.string a0_3) := (blk_cell BK107.out 3).trans rfl
            have hcz39_4 : w8.cell? ⟨gb107, 4, none⟩ = some (.slice A0_4 l0_4.length c0_4) := (blk_cell BK107.out 4).trans rfl
            have hfz39_0 := blk_frozen BK107.out 0
            have hfz39_1 := blk_frozen BK107.out 1
            have hfz39_2 := blk_frozen BK107.out 2
            have hfz39_3 := blk_frozen BK107.out 3
            have hfz39_4 := blk_frozen BK107.out 4
            have hglz40_0 : w8.cell? ⟨2, 0, none⟩ = some (.int .i64 0) := (Laid2.up HLD2.out (by repeat (first | (with_reducible first | exact HB.out | apply below_alloc | apply pw_below_drewN | apply below_drew1 | refine below_set ?_ GE107.out) | exact HB.out))).1
            have hglz40_1 : w8.cell? ⟨2, 1, none⟩ = some (.int .i64 0) := (Laid2.up HLD2.out (by repeat (first | (with_reducible first | exact HB.out | apply below_alloc | apply pw_below_drewN | apply below_drew1 | refine below_set ?_ GE107.out) | exact HB.out))).2.1
            have hglz40_2 : w8.cell? ⟨2, 2, none⟩ = some (.string (⟨#[]⟩ : ByteArray)) := (Laid2.up HLD2.out (by repeat (first | (with_reducible first | exact HB.out | apply below_alloc | apply pw_below_drewN | apply below_drew1 | refine below_set ?_ GE107.out) | exact HB.out))).2.2
            go_wp2_with (first | (go_at_call 54; (with_reducible refine (term_Principal.calls a0_0 a0_1 a0_2 true _ A37.out).mono ?_); rintro e w41 ⟨rfl, hb⟩; have n0_ := Aside0.mk (blk_below (g := gb107) (o := .cells #[.int .i64 a0_0, .int .i64 a0_1, .string a0_2, .string a0_3, .slice A0_4 l0_4.length c0_4] 26 (0, 0)) (by (with_reducible repeat (first | refine blk_drewN ?_ _ | refine blk_drew ?_ | refine blk_alloc ?_ _)); exact BK107.out) hb); have n1_ := Aside0.mk (below_step (by repeat (first | (with_reducible first | exact HB.out | apply below_alloc | apply pw_below_drewN | apply below_drew1 | refine below_set ?_ GE107.out) | exact HB.out)) hb); clear BK107; clear HB; have BK107 := n0_; have HB := n1_; clear n0_ n1_; (try clear hb); (try clear hb2); (try clear hk); (try clear hi)))
            go_meet
            case rel => exact ⟨_, (false), (by first | rfl | (simp; done) | (simp [*]; done)), H', ⟨by first | omega | exact Nat.le_refl _⟩, ⟨by (with_reducible repeat (first | refine blk_drewN ?_ _ | refine blk_drew ?_ | refine blk_alloc ?_ _)); exact BK107.out⟩, ⟨by repeat (first | (with_reducible first | exact HB.out | apply below_alloc | apply pw_below_drewN | apply below_drew1 | refine below_set ?_ GE107.out) | exact HB.out)⟩⟩
          · replace c38 := Bool.eq_false_iff.mpr c38
            subst c38
            have H1 : ((term_Variable.f a0_0 a0_1 a0_2).bind fun t114 => (term_CheckAtom.j0 k (!t114) a0_0 a0_1 a0_2 a0_3 l0_4)) = some r := by rw [if_neg (show ¬ (false = true) by decide)] at H; exact H
            clear H
            have H := H1
            clear H1
            replace H := Option.bind_eq_some_iff.mp H
            obtain ⟨t114, A420, H⟩ := H
            replace H : (term_CheckAtom.j0 k (!t114) a0_0 a0_1 a0_2 a0_3 l0_4) = some r := H
            have A42 := Aside0.mk A420
            clear A420
            have H' := Aside0.mk H
            clear H
            have hcz43_0 : w8.cell? ⟨gb107, 0, none⟩ = some (.int .i64 a0_0) := (blk_cell BK107.out 0).trans rfl
            have hcz43_1 : w8.cell? ⟨gb107, 1, none⟩ = some (.int .i64 a0_1) := (blk_cell BK107.out 1).trans rfl
            have hcz43_2 : w8.cell? ⟨gb107, 2, none⟩ = some (.string a0_2) := (blk_cell BK107.out 2).trans rfl
            have hcz43_3 : w8.cell? ⟨gb107, 3, none⟩ = some (.string a0_3) := (blk_cell BK107.out 3).trans rfl
            have hcz43_4 : w8.cell? ⟨gb107, 4, none⟩ = some (.slice A0_4 l0_4.length c0_4) := (blk_cell BK107.out 4).trans rfl
            have hfz43_0 := blk_frozen BK107.out 0
            have hfz43_1 := blk_frozen BK107.out 1
            have hfz43_2 := blk_frozen BK107.out 2
            have hfz43_3 := blk_frozen BK107.out 3
            have hfz43_4 := blk_frozen BK107.out 4
            have hglz44_0 : w8.cell? ⟨2, 0, none⟩ = some (.int .i64 0) := (Laid2.up HLD2.out (by repeat (first | (with_reducible first | exact HB.out | apply below_alloc | apply pw_below_drewN | apply below_drew1 | refine below_set ?_ GE107.out) | exact HB.out))).1
            have hglz44_1 : w8.cell? ⟨2, 1, none⟩ = some (.int .i64 0) := (Laid2.up HLD2.out (by repeat (first | (with_reducible first | exact HB.out | apply below_alloc | apply pw_below_drewN | apply below_drew1 | refine below_set ?_ GE107.out) | exact HB.out))).2.1
            have hglz44_2 : w8.cell? ⟨2, 2, none⟩ = some (.string (⟨#[]⟩ : ByteArray)) := (Laid2.up HLD2.out (by repeat (first | (with_reducible first | exact HB.out | apply below_alloc | apply pw_below_drewN | apply below_drew1 | refine below_set ?_ GE107.out) | exact HB.out))).2.2
            go_wp2_with (first | (go_at_call 54; (with_reducible refine (term_Principal.calls a0_0 a0_1 a0_2 false _ A37.out).mono ?_); rintro e w45 ⟨rfl, hb⟩; have n0_ := Aside0.mk (blk_below (g := gb107) (o := .cells #[.int .i64 a0_0, .int .i64 a0_1, .string a0_2, .string a0_3, .slice A0_4 l0_4.length c0_4] 26 (0, 0)) (by (with_reducible repeat (first | refine blk_drewN ?_ _ | refine blk_drew ?_ | refine blk_alloc ?_ _)); exact BK107.out) hb); have n1_ := Aside0.mk (below_step (by repeat (first | (with_reducible first | exact HB.out | apply below_alloc | apply pw_below_drewN | apply below_drew1 | refine below_set ?_ GE107.out) | exact HB.out)) hb); clear BK107; clear HB; have BK107 := n0_; have HB := n1_; clear n0_ n1_; (try clear hb); (try clear hb2); (try clear hk); (try clear hi); have hcz46_0 : w45.cell? ⟨gb107, 0, none⟩ = some (.int .i64 a0_0) := (blk_cell BK107.out 0).trans rfl; have hcz46_1 : w45.cell? ⟨gb107, 1, none⟩ = some (.int .i64 a0_1) := (blk_cell BK107.out 1).trans rfl; have hcz46_2 : w45.cell? ⟨gb107, 2, none⟩ = some (.string a0_2) := (blk_cell BK107.out 2).trans rfl; have hcz46_3 : w45.cell? ⟨gb107, 3, none⟩ = some (.string a0_3) := (blk_cell BK107.out 3).trans rfl; have hcz46_4 : w45.cell? ⟨gb107, 4, none⟩ = some (.slice A0_4 l0_4.length c0_4) := (blk_cell BK107.out 4).trans rfl; have hfz46_0 := blk_frozen BK107.out 0; have hfz46_1 := blk_frozen BK107.out 1; have hfz46_2 := blk_frozen BK107.out 2; have hfz46_3 := blk_frozen BK107.out 3; have hfz46_4 := blk_frozen BK107.out 4) | (go_at_call 55; (with_reducible refine (term_Variable.calls a0_0 a0_1 a0_2 t114 _ A42.out).mono ?_); rintro e w47 ⟨rfl, hb⟩; have n0_ := Aside0.mk (blk_below (g := gb107) (o := .cells #[.int .i64 a0_0, .int .i64 a0_1, .string a0_2, .string a0_3, .slice A0_4 l0_4.length c0_4] 26 (0, 0)) (by (with_reducible repeat (first | refine blk_drewN ?_ _ | refine blk_drew ?_ | refine blk_alloc ?_ _)); exact BK107.out) hb); have n1_ := Aside0.mk (below_step (by repeat (first | (with_reducible first | exact HB.out | apply below_alloc | apply pw_below_drewN | apply below_drew1 | refine below_set ?_ GE107.out) | exact HB.out)) hb); clear BK107; clear HB; have BK107 := n0_; have HB := n1_; clear n0_ n1_; (try clear hb); (try clear hb2); (try clear hk); (try clear hi)))
            go_meet
            case rel => exact ⟨_, (!t114), (by first | rfl | (simp; done) | (simp [*]; done)), H', ⟨by first | omega | exact Nat.le_refl _⟩, ⟨by (with_reducible repeat (first | refine blk_drewN ?_ _ | refine blk_drew ?_ | refine blk_alloc ?_ _)); exact BK107.out⟩, ⟨by repeat (first | (with_reducible first | exact HB.out | apply below_alloc | apply pw_below_drewN | apply below_drew1 | refine below_set ?_ GE107.out) | exact HB.out)⟩⟩
      case rest =>
        clear HC7
        try clear c1
        try clear c2
        try clear p2
        try clear c3
        try clear c4
        try clear c4b0
        try clear c4b1
        try clear c5
        try clear c10
        try clear c10b0
        try clear c10b1
        try clear c11
        try clear c11b0
        try clear c11b1
        try clear c12
        try clear c12b0
        try clear c12b1
        try clear c16
        try clear c26
        try clear c27
        try clear c38
        try clear hcz13_0
        try clear hcz13_1
        try clear hcz13_2
        try clear hcz13_3
        try clear hcz13_4
        try clear hcz17_0
        try clear hcz17_1
        try clear hcz17_2
        try clear hcz17_3
        try clear hcz17_4
        try clear hcz21_0
        try clear hcz21_1
        try clear hcz21_2
        try clear hcz21_3
        try clear hcz21_4
        try clear hcz24_0
        try clear hcz24_1
        try clear hcz24_2
        try clear hcz24_3
        try clear hcz24_4
        try clear hcz28_0
        try clear hcz28_1
        try clear hcz28_2
        try clear hcz28_3
        try clear hcz28_4
        try clear hcz32_0
        try clear hcz32_1
        try clear hcz32_2
        try clear hcz32_3
        try clear hcz32_4
        try clear hcz35_0
        try clear hcz35_1
        try clear hcz35_2
        try clear hcz35_3
        try clear hcz35_4
        try clear hcz39_0
        try clear hcz39_1
        try clear hcz39_2
        try clear hcz39_3
        try clear hcz39_4
        try clear hcz43_0
        try clear hcz43_1
        try clear hcz43_2
        try clear hcz43_3
        try clear hcz43_4
        try clear hcz46_0
        try clear hcz46_1
        try clear hcz46_2
        try clear hcz46_3
        try clear hcz46_4
        try clear hcz6_0
        try clear hcz6_1
        try clear hcz6_2
        try clear hcz6_3
        try clear hcz6_4
        try clear hcz9_0
        try clear hcz9_1
        try clear hcz9_2
        try clear hcz9_3
        try clear hcz9_4
        try clear hfz13_0
        try clear hfz13_1
        try clear hfz13_2
        try clear hfz13_3
        try clear hfz13_4
        try clear hfz17_0
        try clear hfz17_1
        try clear hfz17_2
        try clear hfz17_3
        try clear hfz17_4
        try clear hfz21_0
        try clear hfz21_1
        try clear hfz21_2
        try clear hfz21_3
        try clear hfz21_4
        try clear hfz24_0
        try clear hfz24_1
        try clear hfz24_2
        try clear hfz24_3
        try clear hfz24_4
        try clear hfz28_0
        try clear hfz28_1
        try clear hfz28_2
        try clear hfz28_3
        try clear hfz28_4
        try clear hfz32_0
        try clear hfz32_1
        try clear hfz32_2
        try clear hfz32_3
        try clear hfz32_4
        try clear hfz35_0
        try clear hfz35_1
        try clear hfz35_2
        try clear hfz35_3
        try clear hfz35_4
        try clear hfz39_0
        try clear hfz39_1
        try clear hfz39_2
        try clear hfz39_3
        try clear hfz39_4
        try clear hfz43_0
        try clear hfz43_1
        try clear hfz43_2
        try clear hfz43_3
        try clear hfz43_4
        try clear hfz46_0
        try clear hfz46_1
        try clear hfz46_2
        try clear hfz46_3
        try clear hfz46_4
        try clear hfz6_0
        try clear hfz6_1
        try clear hfz6_2
        try clear hfz6_3
        try clear hfz6_4
        try clear hfz9_0
        try clear hfz9_1
        try clear hfz9_2
        try clear hfz9_3
        try clear hfz9_4
        obtain ⟨kq, x13_6, rfl, HA, HJ6, BK107, HB⟩ := hcut
        cases kq with
        | zero => exact absurd HA.out (by simp [term_CheckAtom.j0])
        | succ kj6 =>
          have H := HA.out
          clear HA
          simp only [term_CheckAtom.j0] at H
          by_cases c48 : x13_6 = true
          · subst c48
            have H1 : (some 23) = some r := by rw [if_pos rfl] at H; exact H
            clear H
            have H := H1
            clear H1
            obtain rfl := Option.some.inj H
            go_wp2
            go_ret
            exact ⟨by first | rfl | (simp [errW_none, errW_some] <;> rfl) | (simp [errW_none, errW_some, bne, show ∀ l_ : List UInt8, (l_ == []) = l_.isEmpty from fun l_ => by cases l_ <;> rfl]; done) | (simp [*, errW_none, errW_some] <;> rfl), by repeat (first | (with_reducible first | exact HB.out | apply below_alloc | apply pw_below_drewN | apply below_drew1 | refine below_set ?_ GE107.out) | exact HB.out)⟩
          · replace c48 := Bool.eq_false_iff.mpr c48
            subst c48
            have H1 : ((slices_ContainsFunc_bad.f l0_4).bind fun t115 => (if t115 = true then (some 24) else (some 0))) = some r := by rw [if_neg (show ¬ (false = true) by decide)] at H; exact H
            clear H
            have H := H1
            clear H1
            replace H := Option.bind_eq_some_iff.mp H
            obtain ⟨t115, A490, H⟩ := H
            replace H : (if t115 = true then (some 24) else (some 0)) = some r := H
            have A49 := Aside0.mk A490
            clear A490
            by_cases c50 : t115 = true
            · subst c50
              have H1 : (some 24) = some r := by rw [if_pos rfl] at H; exact H
              clear H
              have H := H1
              clear H1
              obtain rfl := Option.some.inj H
              have hcz51_0 : wc.cell? ⟨gb107, 0, none⟩ = some (.int .i64 a0_0) := (blk_cell BK107.out 0).trans rfl
              have hcz51_1 : wc.cell? ⟨gb107, 1, none⟩ = some (.int .i64 a0_1) := (blk_cell BK107.out 1).trans rfl
              have hcz51_2 : wc.cell? ⟨gb107, 2, none⟩ = some (.string a0_2) := (blk_cell BK107.out 2).trans rfl
              have hcz51_3 : wc.cell? ⟨gb107, 3, none⟩ = some (.string a0_3) := (blk_cell BK107.out 3).trans rfl
              have hcz51_4 : wc.cell? ⟨gb107, 4, none⟩ = some (.slice A0_4 l0_4.length c0_4) := (blk_cell BK107.out 4).trans rfl
              have hfz51_0 := blk_frozen BK107.out 0
              have hfz51_1 := blk_frozen BK107.out 1
              have hfz51_2 := blk_frozen BK107.out 2
              have hfz51_3 := blk_frozen BK107.out 3
              have hfz51_4 := blk_frozen BK107.out 4
              go_wp2_with (first | ((with_reducible refine gate_callee (f := 56) rfl ?_); refine goesL_ (some 33) rfl rfl Tryd.func56 (by kernel_rfl) rfl #[.slice A0_4 l0_4.length c0_4, .func (.func 57) #[] #[]] rfl (by (try simp only [List.map_toArray, List.map_cons, List.map_nil]); first | done | rfl | (simp only [List.length_drop, List.length_take]; rfl)) ?_; (with_reducible refine (slices_ContainsFunc_bad.calls _ _ l0_4 true _ ?side1 ?side2 A49.out).mono ?_); (case side1 => repeat (first | exact (Kd.C_below HR0_4.out HB.out) | (with_reducible refine Kd.C_alloc ?_ _) | (with_reducible refine Kd.C_drewN ?_ _) | (with_reducible refine Kd.C_drew ?_))); (case side2 => exact HC0_4.out); rintro e w52 ⟨rfl, hb⟩; refine ⟨_, rfl, ?_⟩; have n0_ := Aside0.mk (blk_below (g := gb107) (o := .cells #[.int .i64 a0_0, .int .i64 a0_1, .string a0_2, .string a0_3, .slice A0_4 l0_4.length c0_4] 26 (0, 0)) (by (with_reducible repeat (first | refine blk_drewN ?_ _ | refine blk_drew ?_ | refine blk_alloc ?_ _)); exact BK107.out) hb); have n1_ := Aside0.mk (below_step (by repeat (first | (with_reducible first | exact HB.out | apply below_alloc | apply pw_below_drewN | apply below_drew1 | refine below_set ?_ GE107.out) | exact HB.out)) hb); clear BK107; clear HB; have BK107 := n0_; have HB := n1_; clear n0_ n1_; (try clear hb); (try clear hb2); (try clear hk); (try clear hi)))
              go_ret
              exact ⟨by first | rfl | (simp [errW_none, errW_some] <;> rfl) | (simp [errW_none, errW_some, bne, show ∀ l_ : List UInt8, (l_ == []) = l_.isEmpty from fun l_ => by cases l_ <;> rfl]; done) | (simp [*, errW_none, errW_some] <;> rfl), by repeat (first | (with_reducible first | exact HB.out | apply below_alloc | apply pw_below_drewN | apply below_drew1 | refine below_set ?_ GE107.out) | exact HB.out)⟩
            · replace c50 := Bool.eq_false_iff.mpr c50
              subst c50
              have H1 : (some 0) = some r := by rw [if_neg (show ¬ (false = true) by decide)] at H; exact H
              clear H
              have H := H1
              clear H1
              obtain rfl := Option.some.inj H
              have hcz53_0 : wc.cell? ⟨gb107, 0, none⟩ = some (.int .i64 a0_0) := (blk_cell BK107.out 0).trans rfl
              have hcz53_1 : wc.cell? ⟨gb107, 1, none⟩ = some (.int .i64 a0_1) := (blk_cell BK107.out 1).trans rfl
              have hcz53_2 : wc.cell? ⟨gb107, 2, none⟩ = some (.string a0_2) := (blk_cell BK107.out 2).trans rfl
              have hcz53_3 : wc.cell? ⟨gb107, 3, none⟩ = some (.string a0_3) := (blk_cell BK107.out 3).trans rfl
              have hcz53_4 : wc.cell? ⟨gb107, 4, none⟩ = some (.slice A0_4 l0_4.length c0_4) := (blk_cell BK107.out 4).trans rfl
              have hfz53_0 := blk_frozen BK107.out 0
              have hfz53_1 := blk_frozen BK107.out 1
              have hfz53_2 := blk_frozen BK107.out 2
              have hfz53_3 := blk_frozen BK107.out 3
              have hfz53_4 := blk_frozen BK107.out 4
              go_wp2_with (first | ((with_reducible refine gate_callee (f := 56) rfl ?_); refine goesL_ (some 33) rfl rfl Tryd.func56 (by kernel_rfl) rfl #[.slice A0_4 l0_4.length c0_4, .func (.func 57) #[] #[]] rfl (by (try simp only [List.map_toArray, List.map_cons, List.map_nil]); first | done | rfl | (simp only [List.length_drop, List.length_take]; rfl)) ?_; (with_reducible refine (slices_ContainsFunc_bad.calls _ _ l0_4 false _ ?side1 ?side2 A49.out).mono ?_); (case side1 => repeat (first | exact (Kd.C_below HR0_4.out HB.out) | (with_reducible refine Kd.C_alloc ?_ _) | (with_reducible refine Kd.C_drewN ?_ _) | (with_reducible refine Kd.C_drew ?_))); (case side2 => exact HC0_4.out); rintro e w54 ⟨rfl, hb⟩; refine ⟨_, rfl, ?_⟩; have n0_ := Aside0.mk (blk_below (g := gb107) (o := .cells #[.int .i64 a0_0, .int .i64 a0_1, .string a0_2, .string a0_3, .slice A0_4 l0_4.length c0_4] 26 (0, 0)) (by (with_reducible repeat (first | refine blk_drewN ?_ _ | refine blk_drew ?_ | refine blk_alloc ?_ _)); exact BK107.out) hb); have n1_ := Aside0.mk (below_step (by repeat (first | (with_reducible first | exact HB.out | apply below_alloc | apply pw_below_drewN | apply below_drew1 | refine below_set ?_ GE107.out) | exact HB.out)) hb); clear BK107; clear HB; have BK107 := n0_; have HB := n1_; clear n0_ n1_; (try clear hb); (try clear hb2); (try clear hk); (try clear hi)))
              go_ret
              exact ⟨by first | rfl | (simp [errW_none, errW_some] <;> rfl) | (simp [errW_none, errW_some, bne, show ∀ l_ : List UInt8, (l_ == []) = l_.isEmpty from fun l_ => by cases l_ <;> rfl]; done) | (simp [*, errW_none, errW_some] <;> rfl), by repeat (first | (with_reducible first | exact HB.out | apply below_alloc | apply pw_below_drewN | apply below_drew1 | refine below_set ?_ GE107.out) | exact HB.out)⟩
  · replace c3 := Bool.eq_false_iff.mpr c3
    subst c3
    have H1 : (some 21) = some r := by rw [if_neg (show ¬ (false = true) by decide)] at H; exact H
    clear H
    have H := H1
    clear H1
    obtain rfl := Option.some.inj H
    go_enter Tryd.func26, Tryd.ntmps26
    go_wp2_with (first | ((with_reducible refine gate_dst (N := 1) rfl ?_); refine box_event ?hg (N := 1) ?hd (cs := #[.int .i64 a0_0, .int .i64 a0_1, .string a0_2, .string a0_3, .slice A0_4 l0_4.length c0_4]) (t := 26) ?hr ?_; (case hd => rfl); (case hg => rfl); (case hr => first | (go_simp; done) | (go_simp; rfl)); intro gb107 hg w55 hbox hb; have n0_ := Aside0.mk (below_step (by repeat (first | (with_reducible first | exact HB.out | apply below_alloc | apply pw_below_drewN | apply below_drew1) | exact HB.out)) hb); have n1_ := Aside0.mk (hbox); have n2_ := Aside0.mk ((by rw [hg]; exact (below_size (by repeat (first | (with_reducible first | exact HB.out | apply below_alloc | apply pw_below_drewN | apply below_drew1) | exact HB.out))) : w.heap.size ≤ gb107)); have n3_ := Aside0.mk ((by rw [hg]; exact (below_size (by repeat (first | (with_reducible first | exact HB.out | apply below_alloc | apply pw_below_drewN | apply below_drew1) | exact HB.out))) : w.heap.size ≤ gb107)); clear HB; have HB := n0_; have BK107 := n1_; have GW107 := n2_; have GE107 := n3_; clear n0_ n1_ n2_ n3_; clear hb hbox hg; have hcz56_0 : w55.cell? ⟨gb107, 0, none⟩ = some (.int .i64 a0_0) := (blk_cell BK107.out 0).trans rfl; have hcz56_1 : w55.cell? ⟨gb107, 1, none⟩ = some (.int .i64 a0_1) := (blk_cell BK107.out 1).trans rfl; have hcz56_2 : w55.cell? ⟨gb107, 2, none⟩ = some (.string a0_2) := (blk_cell BK107.out 2).trans rfl; have hcz56_3 : w55.cell? ⟨gb107, 3, none⟩ = some (.string a0_3) := (blk_cell BK107.out 3).trans rfl; have hcz56_4 : w55.cell? ⟨gb107, 4, none⟩ = some (.slice A0_4 l0_4.length c0_4) := (blk_cell BK107.out 4).trans rfl; have hfz56_0 := blk_frozen BK107.out 0; have hfz56_1 := blk_frozen BK107.out 1; have hfz56_2 := blk_frozen BK107.out 2; have hfz56_3 := blk_frozen BK107.out 3; have hfz56_4 := blk_frozen BK107.out 4) | ((with_reducible refine gate_callee (f := 53) rfl ?_); refine goesL_ (some 6) rfl rfl Tryd.func53 (by kernel_rfl) rfl #[.string a0_3] rfl (by (try simp only [List.map_toArray, List.map_cons, List.map_nil]); first | done | rfl | (simp only [List.length_drop, List.length_take]; rfl)) ?_; (with_reducible refine (term_name.calls k a0_3 false _ A2.out).mono ?_); rintro e w' ⟨rfl, ⟨nd, rfl⟩⟩; refine ⟨_, rfl, ?_⟩))
    go_ret
    exact ⟨by first | rfl | (simp [errW_none, errW_some] <;> rfl) | (simp [errW_none, errW_some, bne, show ∀ l_ : List UInt8, (l_ == []) = l_.isEmpty from fun l_ => by cases l_ <;> rfl]; done) | (simp [*, errW_none, errW_some] <;> rfl), by repeat (first | (with_reducible first | exact HB.out | apply below_alloc | apply pw_below_drewN | apply below_drew1 | refine below_set ?_ GE107.out) | exact HB.out)⟩

-- NOT PRINTED: function 7 (codec_Atom)

-- NOT PRINTED: function 15 (hearsaylaw06_first)

-- NOT PRINTED: function 3 (hearsaylaw06_CodecAtoms)

end Go.Proofs.YtdplpcedfkfajaaDoor.T
/- Look and Become in closed form: the program's and the document's are the same. -/
set_option linter.unusedVariables false
set_option linter.unusedSimpArgs false
namespace Go.Proofs.YtdplpcedfkfajaaDoor.T
open Go.RowKit Go.Lib Go.Proofs.YtdplpcedfkfajaaDoorW.PrintWords
theorem rvar_f (t : Tm) : hearsayref02_Variable.f t.f0 t.f1 t.f2 = some (isVar t) := by
  unfold hearsayref02_Variable.f isVar
  by_cases h : t.f0 = 3
  · by_cases h2 : 0 ≤ t.f1 <;> simp [h, h2]
  · simp [h]
end Go.Proofs.YtdplpcedfkfajaaDoor.T
/- Tests and comparisons in closed form: the document's. -/
set_option linter.unusedVariables false
set_option linter.unusedSimpArgs false
namespace Go.Proofs.YtdplpcedfkfajaaDoor.T
open Go.RowKit Go.Lib Go.Proofs.YtdplpcedfkfajaaDoorW.PrintWords Go.Proofs.YtdplpcedfkfajaaDoor.Hs
theorem rconst_f (t : Tm) : hearsayref02_Const.f t.f0 t.f1 t.f2 = some (isConst t) := by
  unfold hearsayref02_Const.f isConst
  by_cases h : t.f0 = 1
  · by_cases h1 : t.f2.toList = [] <;> simp [h, h1]
  · by_cases h2 : t.f0 = 2
    · by_cases h3 : t.f1 = 0 <;> simp [h2, h3]
    · simp [h, h2]
theorem ba_get {s : ByteArray} {i : Nat} (h : i < s.size) : ∃ h' : i < s.toList.length, bt s (i : Int) = (s.toList[i].toNat : Int) := by
  have e : s.toList = s.data.toList := toList_data s
  have h1 : i < s.toList.length := by rw [e]; simpa using h
  refine ⟨h1, ?_⟩
  unfold bt
  simp only [Int.toNat_natCast]
  rw [dif_pos h]
  congr 2
  simp only [e]
  rfl
theorem ba_len (s : ByteArray) : s.toList.length = s.size := by rw [toList_data]; rfl
end Go.Proofs.YtdplpcedfkfajaaDoor.T
/- CheckAtom, Fact, Vars, CompareAtoms in closed form: the program's and the document's are the same. -/
set_option linter.unusedVariables false
set_option linter.unusedSimpArgs false
namespace Go.Proofs.YtdplpcedfkfajaaDoor.T
open Go.RowKit Go.Lib Go.Proofs.YtdplpcedfkfajaaDoorW.PrintWords Go.Proofs.YtdplpcedfkfajaaDoor.Hs
def letI' (c : Int) : Bool := (decide (97 ≤ c) && decide (c ≤ 122)) || ((decide (65 ≤ c) && decide (c ≤ 90)) || ((decide (48 ≤ c) && decide (c ≤ 57)) || decide (c = 95)))
theorem rletter_f (c : Int) : hearsayref02_letter.f c = some (letI' c) := by
  unfold hearsayref02_letter.f letI'
  repeat' split
  all_goals (refine congrArg some ?_; rw [Bool.eq_iff_iff]; simp; omega)
def nameB (s : ByteArray) : Bool :=
  if s.toList = [] then false else if (s.size : Int) > 32 then false else if s.toList = [115, 97, 121, 115] then false else if bt s 0 < 97 then false else if bt s 0 > 122 then false else s.toList.all fun c => letI' (c.toNat : Int)
theorem name_step {s : ByteArray} {i : Nat} (h : i < s.size) : (s.toList.drop i).all (fun c => letI' (c.toNat : Int)) = (letI' (bt s (i : Int)) && (s.toList.drop (i + 1)).all fun c => letI' (c.toNat : Int)) := by
  obtain ⟨h1, h2⟩ := ba_get h
  rw [List.drop_eq_getElem_cons h1, List.all_cons, h2]
theorem rname_l (s : ByteArray) (hs : s.size ≤ 32) : ∀ (n i k : Nat), s.size = i + n → n + 1 ≤ k → hearsayref02_Name.l0 k s (i : Int) = some ((s.toList.drop i).all fun c => letI' (c.toNat : Int)) := by
  intro n
  induction n with
  | zero =>
    intro i k hi hk
    obtain ⟨k, rfl⟩ : ∃ m, k = m + 1 := ⟨k - 1, by omega⟩
    rw [hearsayref02_Name.l0, if_neg (by omega), List.drop_eq_nil_of_le (by rw [ba_len]; omega)]
    rfl
  | succ n ih =>
    intro i k hi hk
    obtain ⟨k, rfl⟩ : ∃ m, k = m + 1 := ⟨k - 1, by omega⟩
    rw [hearsayref02_Name.l0, if_pos (by omega), if_pos (by omega), rletter_f, name_step (by omega)]
    simp only [Option.bind_some]
    cases letI' (bt s (i : Int)) with
    | false => simp
    | true =>
      rw [if_pos rfl, wrap_succ i (by simp only [smallN]; omega), ih (i + 1) k (by omega) (by omega)]
      simp
theorem name_l (s : ByteArray) (hs : s.size ≤ 32) : ∀ (n i k : Nat), s.size = i + n → n + 1 ≤ k → term_name.l0 k s (s.size : Int) (i : Int) = some ((s.toList.drop i).all fun c => letI' (c.toNat : Int)) := by
  intro n
  induction n with
  | zero =>
    intro i k hi hk
    obtain ⟨k, rfl⟩ : ∃ m, k = m + 1 := ⟨k - 1, by omega⟩
    rw [term_name.l0, if_neg (by omega), List.drop_eq_nil_of_le (by rw [ba_len]; omega)]
    rfl
  | succ n ih =>
    intro i k hi hk
    obtain ⟨k, rfl⟩ : ∃ m, k = m + 1 := ⟨k - 1, by omega⟩
    rw [term_name.l0, if_pos (by omega), if_pos (by omega), if_pos (by omega), name_step (by omega), wrap_succ i (by simp only [smallN]; omega), ih (i + 1) k (by omega) (by omega)]
    generalize bt s (i : Int) = c
    generalize (s.toList.drop (i + 1)).all (fun c => letI' (c.toNat : Int)) = b
    have hl : ∀ x : Bool, letI' c = x → (letI' c && b) = (x && b) := fun x h => by rw [h]
    repeat' split
    all_goals first
      | (rw [show letI' c = true by simp [letI']; omega]; simp; done)
      | (rw [show letI' c = false by simp [letI']; omega]; simp; done)
theorem name_f (s : ByteArray) (k : Nat) (hk : 40 ≤ k) : term_name.f k s = some (nameB s) := by
  obtain ⟨k, rfl⟩ : ∃ m, k = m + 2 := ⟨k - 2, by omega⟩
  have hj : term_name.j0 (k + 2) s true = some false := by rw [term_name.j0]; rfl
  unfold term_name.f nameB
  by_cases h0 : s.toList = []
  · rw [if_pos h0, if_pos h0, hj]
  · have hz : 0 < s.size := by
      have := ba_len s
      cases h : s.toList with
      | nil => exact absurd h h0
      | cons a r => rw [h] at this; simp at this; omega
    rw [if_neg h0, if_neg h0]
    by_cases h1 : (s.size : Int) > 32
    · rw [if_pos h1, if_pos h1, hj]
    · rw [if_neg h1, if_neg h1]
      by_cases h2 : s.toList = [115, 97, 121, 115]
      · rw [if_pos h2, if_pos h2, hj]
      · rw [if_neg h2, if_neg h2, if_pos (by omega)]
        by_cases h3 : bt s 0 < 97
        · rw [if_pos h3, if_pos h3, hj]
        · rw [if_neg h3, if_neg h3]
          by_cases h4 : bt s 0 > 122
          · rw [if_pos h4, show decide (bt s 0 > 122) = true from decide_eq_true h4, hj]
          · rw [if_neg h4, show decide (bt s 0 > 122) = false from decide_eq_false h4, term_name.j0, if_neg (by simp)]
            have := name_l s (by omega) s.size 0 (k + 1) (by omega) (by omega)
            simpa using this
theorem rname_f (s : ByteArray) (k : Nat) (hk : 40 ≤ k) : hearsayref02_Name.f k s = some (nameB s) := by
  obtain ⟨k, rfl⟩ : ∃ m, k = m + 2 := ⟨k - 2, by omega⟩
  have hj : hearsayref02_Name.j0 (k + 2) s true = some false := by rw [hearsayref02_Name.j0]; rfl
  unfold hearsayref02_Name.f nameB
  by_cases h0 : s.toList = []
  · rw [if_pos h0, if_pos h0, hj]
  · have hz : 0 < s.size := by
      have := ba_len s
      cases h : s.toList with
      | nil => exact absurd h h0
      | cons a r => rw [h] at this; simp at this; omega
    rw [if_neg h0, if_neg h0]
    by_cases h1 : (s.size : Int) > 32
    · rw [if_pos h1, if_pos h1, hj]
    · rw [if_neg h1, if_neg h1]
      by_cases h2 : s.toList = [115, 97, 121, 115]
      · rw [if_pos h2, if_pos h2, hj]
      · rw [if_neg h2, if_neg h2, if_pos (by omega)]
        by_cases h3 : bt s 0 < 97
        · rw [if_pos h3, if_pos h3, hj]
        · rw [if_neg h3, if_neg h3]
          by_cases h4 : bt s 0 > 122
          · rw [if_pos h4, show decide (bt s 0 > 122) = true from decide_eq_true h4, hj]
          · rw [if_neg h4, show decide (bt s 0 > 122) = false from decide_eq_false h4, hearsayref02_Name.j0, if_neg (by simp)]
            have := rname_l s (by omega) s.size 0 (k + 1) (by omega) (by omega)
            simpa using this
def nilT (t : Tm) : Bool := t.f0 == 0 && (t.f1 == 0 && (t.f2.toList == ([] : List UInt8)))
def checkA (t : Tm) (nm : ByteArray) (l : List Tm) : Int :=
  if nameB nm then (if (l.length : Int) > 8 then 22 else if !nilT t && (!isPrin t && !isVar t) then 23 else if l.any badT then 24 else 0) else 21
theorem check_f (t : Tm) (nm : ByteArray) (l : List Tm) (ol : l.all okT = true) (ll : l.length < smallN) (k : Nat) (hk : 40 ≤ k) : term_CheckAtom.f k t.f0 t.f1 t.f2 nm l = some (checkA t nm l) := by
  obtain ⟨k, rfl⟩ : ∃ m, k = m + 1 := ⟨k - 1, by omega⟩
  have hj : ∀ b : Bool, term_CheckAtom.j0 (k + 1) b t.f0 t.f1 t.f2 nm l = some (if b then 23 else if l.any badT then 24 else 0) := fun b => by
    rw [term_CheckAtom.j0]
    cases b with
    | true => rfl
    | false =>
      rw [if_neg (by simp), slices_ContainsFunc_bad.f, if_pos (by simp [ol, ll])]
      simp only [Option.bind_some]
      cases l.any badT <;> rfl
  unfold term_CheckAtom.f checkA
  rw [name_f nm _ hk]
  simp only [Option.bind_some]
  cases nameB nm with
  | false => rfl
  | true =>
    rw [if_pos rfl, if_pos rfl]
    by_cases h8 : (l.length : Int) > 8
    · rw [if_pos h8, if_pos h8]
    · rw [if_neg h8, if_neg h8]
      rw [prin_f, var_f]
      simp only [Option.bind_some, hj]
      unfold nilT
      by_cases h0 : t.f0 = 0
      · by_cases h1 : t.f1 = 0
        · by_cases h2 : t.f2.toList = []
          · simp [h0, h1, h2]
          · cases isPrin t <;> cases isVar t <;> simp [h0, h1, h2]
        · cases isPrin t <;> cases isVar t <;> simp [h0, h1]
      · cases isPrin t <;> cases isVar t <;> simp [h0]
theorem rcheckAtom_l (t : Tm) (nm : ByteArray) (l : List Tm) (hl : l.length ≤ 8) : ∀ (n i k : Nat), l.length = i + n → n + 1 ≤ k → hearsayref02_CheckAtom.l0 k (i : Int) t.f0 t.f1 t.f2 nm l = some (if (l.drop i).any badT then 24 else 0) := by
  intro n
  induction n with
  | zero =>
    intro i k hi hk
    obtain ⟨k, rfl⟩ : ∃ m, k = m + 1 := ⟨k - 1, by omega⟩
    rw [hearsayref02_CheckAtom.l0, if_neg (by omega), List.drop_eq_nil_of_le (by omega)]
    rfl
  | succ n ih =>
    intro i k hi hk
    obtain ⟨k, rfl⟩ : ∃ m, k = m + 1 := ⟨k - 1, by omega⟩
    rw [hearsayref02_CheckAtom.l0, if_pos (by omega), if_pos (by omega), rd_at23 _ _ (show i < l.length by omega), rconst_f, rvar_f, wrap_succ i (by simp only [smallN]; omega), ih (i + 1) k (by omega) (by omega), List.drop_eq_getElem_cons (show i < l.length by omega), List.any_cons]
    simp only [Option.bind_some, badT]
    by_cases hc : isConst l[i] = true <;> by_cases hv : isVar l[i] = true <;> simp [hc, hv]
theorem rprin_f (t : Tm) : hearsayref02_Principal.f t.f0 t.f1 t.f2 = some (isPrin t) := by
  unfold hearsayref02_Principal.f isPrin
  rw [rconst_f]
  cases isConst t
  · simp
  · by_cases h : t.f0 = 2 <;> simp [h]
theorem rcheckAtom_f (t : Tm) (nm : ByteArray) (l : List Tm) (k : Nat) (hk : 40 ≤ k) : hearsayref02_CheckAtom.f k t.f0 t.f1 t.f2 nm l = some (checkA t nm l) := by
  obtain ⟨k, rfl⟩ : ∃ m, k = m + 1 := ⟨k - 1, by omega⟩
  unfold hearsayref02_CheckAtom.f checkA
  rw [rname_f nm _ hk]
  simp only [Option.bind_some]
  cases nameB nm with
  | false => rfl
  | true =>
    rw [if_pos rfl, if_pos rfl]
    by_cases h8 : (l.length : Int) > 8
    · rw [if_pos h8, if_pos h8]
    · rw [if_neg h8, if_neg h8]
      have hj : ∀ b : Bool, hearsayref02_CheckAtom.j0 (k + 1) b t.f0 t.f1 t.f2 nm l = some (if b then 23 else if l.any badT then 24 else 0) := fun b => by
        rw [hearsayref02_CheckAtom.j0]
        cases b with
        | true => rfl
        | false =>
          rw [if_neg (by simp)]
          have := rcheckAtom_l t nm l (by omega) l.length 0 k (by omega) (by omega)
          simpa using this
      rw [rprin_f, rvar_f]
      simp only [Option.bind_some, hj]
      unfold nilT
      by_cases h0 : t.f0 = 0
      · by_cases h1 : t.f1 = 0
        · by_cases h2 : t.f2.toList = []
          · simp [h0, h1, h2]
          · cases isPrin t <;> cases isVar t <;> simp [h0, h1, h2]
        · cases isPrin t <;> cases isVar t <;> simp [h0, h1]
      · cases isPrin t <;> cases isVar t <;> simp [h0]
end Go.Proofs.YtdplpcedfkfajaaDoor.T
/- The walk of codec.Atom. -/
set_option linter.unusedVariables false
set_option linter.unusedSimpArgs false
namespace Go.Proofs.YtdplpcedfkfajaaDoor.T
open Go.RowKit Go.Proofs.YtdplpcedfkfajaaDoorW.PrintWords Go.Proofs.YtdplpcedfkfajaaDoorW.PrintLast
def codecAtom (t : Tm) (nm : ByteArray) (l : List Tm) : List Int × Int := if checkA t nm l = 0 then (encA t nm l, 0) else ([], checkA t nm l)
/-- What a writing function answers: a row of its own, or none and the error. -/
structure Wrote (w : World) (r : List Int × Int) (e : Ending) (w' : World) : Prop where
  ex : ∃ v, e = .returned (.tuple #[v, .int .i64 r.2]) ∧ Bt w' w.heap.size (fun _ => True) v r.1
  below : Below w.heap.size w w'
set_option maxHeartbeats 4000000 in
set_option maxRecDepth 100000 in
theorem atom_calls (t : Tm) (nm : ByteArray) (A : Option Addr) (c : Nat) (l : List Tm) (w : World) (hC : Kd.C k23 w A l.length l) (hc : l.length ≤ c) (ol : l.all okT = true) (hLD : Laid2 w) (ll : l.length < smallN) (hl : costA t nm l < 140737488355328) :
    Calls Tryd.prog 7 #[.agg #[.int .i64 t.f0, .int .i64 t.f1, .string t.f2, .string nm, .slice A l.length c]] w (Wrote w (codecAtom t nm l)) := by
  have hu26 := Tryd.underlying26
  have HC := Aside0.mk hC
  have HCC := Aside0.mk hc
  have HL := Aside0.mk hl
  have HLD := Aside0.mk hLD
  have HCK := Aside0.mk (check_f t nm l ol ll 40 (by omega))
  clear hC hc hl hLD ol ll
  by_cases h0 : checkA t nm l = 0
  · have er : codecAtom t nm l = (encA t nm l, 0) := by unfold codecAtom; rw [if_pos h0]
    rw [er]
    have HCK' := Aside0.mk (show term_CheckAtom.f 40 t.f0 t.f1 t.f2 nm l = some 0 by rw [← h0]; exact HCK.out)
    clear h0 er HCK
    go_enter Tryd.func7, Tryd.ntmps7
    go_wp2_with (first
      | ((with_reducible refine gate_dst (N := 1) rfl ?_); refine box_event ?hg (N := 1) ?hd (cs := #[.int .i64 t.f0, .int .i64 t.f1, .string t.f2, .string nm, .slice A l.length c]) (t := 26) ?hr ?_; (case hd => rfl); (case hg => rfl); (case hr => first | (go_simp; done) | (go_simp; rfl)); intro b1 hb1 w1 hbox hb; have BK := Aside0.mk hbox; have HB1 := Aside0.mk hb; clear hb1 hbox hb; have p0 := (blk_cell BK.out 0).trans rfl; have p1 := (blk_cell BK.out 1).trans rfl; have p2 := (blk_cell BK.out 2).trans rfl; have p3 := (blk_cell BK.out 3).trans rfl; have p4 := (blk_cell BK.out 4).trans rfl)
      | (go_at_call 26; (with_reducible refine (term_CheckAtom.calls 40 t.f0 t.f1 t.f2 nm A c l 0 _ (Kd.C_below HC.out HB1.out) HCC.out (Laid2.up HLD.out HB1.out) HCK'.out).mono ?_); rintro e w2 ⟨rfl, hb⟩; have HB2 := Aside0.mk (below_step HB1.out hb); have BK2 := Aside0.mk (blk_below BK.out hb); clear hb BK p0 p1 p2 p3 p4; have p0 := (blk_cell BK2.out 0).trans rfl; have p1 := (blk_cell BK2.out 1).trans rfl; have p2 := (blk_cell BK2.out 2).trans rfl; have p3 := (blk_cell BK2.out 3).trans rfl; have p4 := (blk_cell BK2.out 4).trans rfl)
      | (go_at_call 27; (with_reducible refine (layAtom_calls w _ (fun _ => False) (.slice none 0 0) [] t nm A c l HB2.out (Kd.R_nil _ _ _ _ _) HC.out HCC.out (by have := HL.out; simpa using this)).mono ?_); rintro e w3 hl3; obtain ⟨⟨v3, rfl, hv3⟩, hb3, _⟩ := hl3; have HE := Aside0.mk (show Wrote w (encA t nm l, 0) (.returned (.tuple #[v3, .int .i64 0])) w3 from ⟨⟨v3, rfl, Kd.R_mono hv3 (fun _ _ => trivial)⟩, hb3⟩); clear hv3 hb3))
    go_ret2
    exact HE.out
  · have er : codecAtom t nm l = ([], checkA t nm l) := by unfold codecAtom; rw [if_neg h0]
    rw [er]
    obtain ⟨x, hx⟩ : ∃ x, checkA t nm l = x := ⟨_, rfl⟩
    rw [hx] at h0
    have HCK' := Aside0.mk (show term_CheckAtom.f 40 t.f0 t.f1 t.f2 nm l = some x by rw [← hx]; exact HCK.out)
    have c1 : (x != 0) = true := by simpa using h0
    rw [hx]
    clear h0 er HCK hx
    go_enter Tryd.func7, Tryd.ntmps7
    go_wp2_with (first
      | ((with_reducible refine gate_dst (N := 1) rfl ?_); refine box_event ?hg (N := 1) ?hd (cs := #[.int .i64 t.f0, .int .i64 t.f1, .string t.f2, .string nm, .slice A l.length c]) (t := 26) ?hr ?_; (case hd => rfl); (case hg => rfl); (case hr => first | (go_simp; done) | (go_simp; rfl)); intro b1 hb1 w1 hbox hb; have BK := Aside0.mk hbox; have HB1 := Aside0.mk hb; clear hb1 hbox hb; have p0 := (blk_cell BK.out 0).trans rfl; have p1 := (blk_cell BK.out 1).trans rfl; have p2 := (blk_cell BK.out 2).trans rfl; have p3 := (blk_cell BK.out 3).trans rfl; have p4 := (blk_cell BK.out 4).trans rfl)
      | (go_at_call 26; (with_reducible refine (term_CheckAtom.calls 40 t.f0 t.f1 t.f2 nm A c l x _ (Kd.C_below HC.out HB1.out) HCC.out (Laid2.up HLD.out HB1.out) HCK'.out).mono ?_); rintro e w2 ⟨rfl, hb⟩; have HB2 := Aside0.mk (below_step HB1.out hb); clear hb BK p0 p1 p2 p3 p4))
    go_ret2
    exact ⟨⟨_, rfl, Kd.R_nil _ _ _ _ _⟩, HB2.out⟩
end Go.Proofs.YtdplpcedfkfajaaDoor.T
/- The walks of codec.small, natural, term, value. -/
set_option linter.unusedVariables false
set_option linter.unusedSimpArgs false
namespace Go.Proofs.YtdplpcedfkfajaaDoor.T
open Go.RowKit Go.Proofs.YtdplpcedfkfajaaDoorW.PrintWords Go.Proofs.YtdplpcedfkfajaaDoorW.PrintLast
section
variable {α : Type} {w0 w w' : World} {rb : Nat} {val : α → World → Value → Prop} {e : Ending} {x : α} {rest rest' : List Int} {c : Int}
theorem Reads.okv (h : Reads w0 w rb (.ok (x, rest')) val e w') : ∃ v, e = .returned v ∧ val x w' v ∧ Rst w0 w' rb rest' ∧ KeepBut w w' rb none := by
  obtain ⟨v, h1, h2, h3⟩ := h.ok _ _ rfl
  exact ⟨v, h1, h2, h3, h.keep⟩
theorem Reads.nov (h : Reads w0 w rb (.error c) val e w') : e = gaveUp c ∧ KeepBut w w' rb none ∧ Below w0.heap.size w0 w' := ⟨h.no _ rfl, h.keep, h.below⟩
theorem Reads.give {v : Value} (hk : KeepBut w w' rb none) (hs : Rst w0 w' rb rest') (hv : val x w' v) : Reads w0 w rb (.ok (x, rest')) val (.returned v) w' :=
  ⟨hk, hs.below, fun y r hy => by
    injection hy with hy
    injection hy with h1 h2
    subst h1 h2
    exact ⟨v, rfl, hv, hs⟩, fun c hc => (by cases hc)⟩
theorem Reads.upped (hk : KeepBut w w' rb none) (hb : Below w0.heap.size w0 w') : Reads w0 w rb (.error c) val (gaveUp c) w' :=
  ⟨hk, hb, fun y r hy => (by cases hy), fun c hc => by
    injection hc with hc
    rw [hc]⟩
end
theorem numR_ok {k : Nat} {rest rest' : List Int} {n : Int} (hby : isBytes rest) (h : numR k rest = .ok (n, rest')) : 0 ≤ n ∧ n < 256 ^ k ∧ isBytes rest' := by
  unfold numR Rd.then takeR at h
  by_cases hl : k ≤ rest.length
  · rw [if_pos hl] at h
    simp only [Rd.give] at h
    injection h with h
    injection h with h1 h2
    have := numOf_range (rest.take k) (fun c hc => hby c (List.mem_of_mem_take hc))
    rw [List.length_take, Nat.min_eq_left hl] at this
    rw [← h1, ← h2]
    exact ⟨this.1, this.2, fun c hc => hby c (List.mem_of_mem_drop hc)⟩
  · rw [if_neg hl] at h; cases h
theorem takeR_ok {k : Nat} {rest rest' b : List Int} (hby : isBytes rest) (h : takeR k rest = .ok (b, rest')) : b.length = k ∧ isBytes b ∧ isBytes rest' := by
  unfold takeR at h
  by_cases hl : k ≤ rest.length
  · rw [if_pos hl] at h
    injection h with h
    injection h with h1 h2
    rw [← h1, ← h2]
    exact ⟨by rw [List.length_take]; omega, fun c hc => hby c (List.mem_of_mem_take hc), fun c hc => hby c (List.mem_of_mem_drop hc)⟩
  · rw [if_neg hl] at h; cases h
set_option maxHeartbeats 4000000 in
set_option maxRecDepth 100000 in
theorem small_calls (w0 w : World) (rb : Nat) (rest : List Int) (lo hi : Int) (hby : isBytes rest) (h : Rst w0 w rb rest) :
    Calls Tryd.prog 69 #[.pointer (some ⟨rb, 0, none⟩), .int .i64 lo, .int .i64 hi] w (Reads w0 w rb (smallR lo hi rest) (ValI .i64)) := by
  have hc : Calls Tryd.prog 96 #[.pointer (some ⟨rb, 0, none⟩), .int .i64 1] w (Reads w0 w rb (numR 1 rest) (ValI .u64)) := number_calls w0 w rb rest 1 (by omega) hby h
  cases hn : numR 1 rest with
  | error c =>
    have er : smallR lo hi rest = .error c := by unfold smallR Rd.then; rw [hn]
    rw [hn] at hc
    rw [er]
    have HC := Aside0.mk (hc.mono (fun e w' hr => hr.nov))
    clear hc hn er h hby
    go_enter Tryd.func69, Tryd.ntmps69
    go_wp2_with (first
      | (go_at_call 96; (with_reducible refine HC.out.mono ?_); rintro e w1 ⟨rfl, hk, hb⟩; have HK := Aside0.mk hk; have HB1 := Aside0.mk hb; clear hk hb))
    exact ⟨rfl, Reads.upped HK.out HB1.out⟩
  | ok p =>
    obtain ⟨n, rest'⟩ := p
    rw [hn] at hc
    obtain ⟨n0, n1, hby'⟩ := numR_ok hby hn
    have hwr : wrap64 n = n := by simp only [wrap64]; omega
    have HC := Aside0.mk (hc.mono (fun e w' hr => hr.okv))
    have er : smallR lo hi rest = (if (decide (lo ≤ n) && decide (n ≤ hi)) = true then .ok (n, rest') else .error 63) := by
      unfold smallR Rd.then
      rw [hn]
      simp only [needR]
      by_cases hb : (decide (lo ≤ n) && decide (n ≤ hi)) = true
      · rw [if_pos hb, if_pos hb]; rfl
      · rw [if_neg hb, if_neg hb]; rfl
    rw [er]
    clear hc hn er h hby hby' n0 n1
    by_cases h1 : lo ≤ n
    · have d1 : decide (lo ≤ n) = true := decide_eq_true h1
      by_cases h2 : n ≤ hi
      · have d2 : decide (n ≤ hi) = true := decide_eq_true h2
        rw [if_pos (by rw [d1, d2]; rfl)]
        clear h1 h2
        go_enter Tryd.func69, Tryd.ntmps69
        go_wp2_with (first
          | (go_at_call 96; (with_reducible refine HC.out.mono ?_); rintro e w1 ⟨v, rfl, rfl, hs, hk⟩; have HS := Aside0.mk hs; have HK := Aside0.mk hk; clear hs hk)
          | (go_at_call 66; (with_reducible refine (need_true 63 _).mono ?_); rintro e w2 ⟨rfl, rfl⟩))
        go_ret
        exact Reads.give HK.out HS.out rfl
      · have d2 : decide (n ≤ hi) = false := decide_eq_false h2
        rw [if_neg (by rw [d2]; simp)]
        clear h1 h2
        go_enter Tryd.func69, Tryd.ntmps69
        go_wp2_with (first
          | (go_at_call 96; (with_reducible refine HC.out.mono ?_); rintro e w1 ⟨v, rfl, rfl, hs, hk⟩; have HS := Aside0.mk hs; have HK := Aside0.mk hk; clear hs hk)
          | (go_at_call 66; (with_reducible refine (need_false 63 _).mono ?_); rintro e w2 ⟨rfl, rfl⟩))
        exact ⟨rfl, Reads.upped HK.out HS.out.below⟩
    · have d1 : decide (lo ≤ n) = false := decide_eq_false h1
      rw [if_neg (by rw [d1]; simp)]
      clear h1
      go_enter Tryd.func69, Tryd.ntmps69
      go_wp2_with (first
        | (go_at_call 96; (with_reducible refine HC.out.mono ?_); rintro e w1 ⟨v, rfl, rfl, hs, hk⟩; have HS := Aside0.mk hs; have HK := Aside0.mk hk; clear hs hk)
        | (go_at_call 66; (with_reducible refine (need_false 63 _).mono ?_); rintro e w2 ⟨rfl, rfl⟩))
      exact ⟨rfl, Reads.upped HK.out HS.out.below⟩
set_option maxHeartbeats 4000000 in
set_option maxRecDepth 100000 in
theorem natural_calls (w0 w : World) (rb : Nat) (rest : List Int) (hby : isBytes rest) (h : Rst w0 w rb rest) :
    Calls Tryd.prog 97 #[.pointer (some ⟨rb, 0, none⟩)] w (Reads w0 w rb (natR rest) (ValI .i64)) := by
  have hc : Calls Tryd.prog 96 #[.pointer (some ⟨rb, 0, none⟩), .int .i64 8] w (Reads w0 w rb (numR 8 rest) (ValI .u64)) := number_calls w0 w rb rest 8 (by omega) hby h
  cases hn : numR 8 rest with
  | error c =>
    have er : natR rest = .error c := by unfold natR Rd.then; rw [hn]
    rw [hn] at hc
    rw [er]
    have HC := Aside0.mk (hc.mono (fun e w' hr => hr.nov))
    clear hc hn er h hby
    go_enter Tryd.func97, Tryd.ntmps97
    go_wp2_with (first
      | (go_at_call 96; (with_reducible refine HC.out.mono ?_); rintro e w1 ⟨rfl, hk, hb⟩; have HK := Aside0.mk hk; have HB1 := Aside0.mk hb; clear hk hb))
    exact ⟨rfl, Reads.upped HK.out HB1.out⟩
  | ok p =>
    obtain ⟨n, rest'⟩ := p
    rw [hn] at hc
    obtain ⟨n0, n1, hby'⟩ := numR_ok hby hn
    have HC := Aside0.mk (hc.mono (fun e w' hr => hr.okv))
    have er : natR rest = (if decide (n < 9223372036854775808) = true then .ok (n, rest') else .error 63) := by
      unfold natR Rd.then
      rw [hn]
      simp only [needR]
      by_cases hb : decide (n < 9223372036854775808) = true
      · rw [if_pos hb, if_pos hb]; rfl
      · rw [if_neg hb, if_neg hb]; rfl
    rw [er]
    by_cases h1 : n < 9223372036854775808
    · have hwr : wrap64 n = n := by simp only [wrap64]; omega
      have d1 : decide (0 ≤ n) = true := decide_eq_true n0
      rw [if_pos (decide_eq_true h1)]
      clear h1 hc hn er h hby hby' n0 n1
      go_enter Tryd.func97, Tryd.ntmps97
      go_wp2_with (first
        | (go_at_call 96; (with_reducible refine HC.out.mono ?_); rintro e w1 ⟨v, rfl, rfl, hs, hk⟩; have HS := Aside0.mk hs; have HK := Aside0.mk hk; clear hs hk)
        | (go_at_call 66; (with_reducible refine (need_true 63 _).mono ?_); rintro e w2 ⟨rfl, rfl⟩))
      go_ret
      exact Reads.give HK.out HS.out rfl
    · obtain ⟨m, hm⟩ : ∃ m, wrap64 n = m := ⟨_, rfl⟩
      have hmn : m < 0 := by rw [← hm]; simp only [wrap64]; omega
      have d1 : decide (0 ≤ m) = false := decide_eq_false (by omega)
      rw [if_neg (by simpa using h1)]
      clear h1 hc hn er h hby hby' n0 n1 hmn
      go_enter Tryd.func97, Tryd.ntmps97
      go_wp2_with (first
        | (go_at_call 96; (with_reducible refine HC.out.mono ?_); rintro e w1 ⟨v, rfl, rfl, hs, hk⟩; have HS := Aside0.mk hs; have HK := Aside0.mk hk; clear hs hk)
        | (go_at_call 66; (with_reducible refine (need_false 63 _).mono ?_); rintro e w2 ⟨rfl, rfl⟩))
      exact ⟨rfl, Reads.upped HK.out HS.out.below⟩
end Go.Proofs.YtdplpcedfkfajaaDoor.T
