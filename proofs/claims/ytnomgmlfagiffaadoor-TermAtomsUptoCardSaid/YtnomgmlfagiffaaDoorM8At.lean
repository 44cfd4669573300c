/- T26: texts of this claim, laid together. -/
import Derived.Test.YtnomgmlfagiffaaDoorM0At
import Derived.Test.YtnomgmlfagiffaaDoorM5At
import Derived.Test.YtnomgmlfagiffaaDoorM4At
-- By a program of this session (wip/tools/myprint.py), out of the translation.
namespace Go.Proofs.YtnomgmlfagiffaaDoor.T
open Go.RowKit Go.Proofs.YtnomgmlfagiffaaDoorW.PrintWords Go.Proofs.YtnomgmlfagiffaaDoorW.PrintLast Go.Proofs.YtnomgmlfagiffaaDoorW.PrintMore
attribute [local go_sem] max2_int min2_int max_two min_two max_three min_three max_four min_four   -- for this text's walks alone
set_option linter.unusedVariables false
set_option linter.unusedSimpArgs false

-- NOT PRINTED: function 4 (hearsaylaw02_TermBinds)

-- NOT PRINTED: function 3 (hearsaylaw02_TermMatches)

-- NOT PRINTED: function 6 (hearsaylaw02_TermUnified)

-- NOT PRINTED: function 7 (hearsaylaw02_TermTests)

-- NOT PRINTED: function 70 (api_Term_70)

def term_CheckAtom.j0 : Nat → Bool → Int → Int → ByteArray → ByteArray → List (S23) → Option (Int)
  | 0, _, _, _, _, _, _ => none
  | k + 1, x13, x637000, x637001, x637002, x637003, x637004 => if x13 = true then (some 23) else ((slices_ContainsFunc_bad.f x637004).bind fun t644 => (if t644 = true then (some 24) else (some 0)))
def term_CheckAtom.f (k : Nat) (a0_0 : Int) (a0_1 : Int) (a0_2 : ByteArray) (a0_3 : ByteArray) (l0_4 : List (S23)) : Option (Int) := (term_name.f k a0_3).bind fun t637 => (if t637 = true then (if (l0_4.length : Int) > 8 then (some 22) else (if a0_0 = 0 then (if a0_1 = 0 then (if a0_2.toList = ([] : List UInt8) then (term_CheckAtom.j0 k false a0_0 a0_1 a0_2 a0_3 l0_4) else ((term_Principal.f a0_0 a0_1 a0_2).bind fun t638 => (if t638 = true then (term_CheckAtom.j0 k false a0_0 a0_1 a0_2 a0_3 l0_4) else ((term_Variable.f a0_0 a0_1 a0_2).bind fun t639 => (term_CheckAtom.j0 k (!t639) a0_0 a0_1 a0_2 a0_3 l0_4))))) else ((term_Principal.f a0_0 a0_1 a0_2).bind fun t640 => (if t640 = true then (term_CheckAtom.j0 k false a0_0 a0_1 a0_2 a0_3 l0_4) else ((term_Variable.f a0_0 a0_1 a0_2).bind fun t641 => (term_CheckAtom.j0 k (!t641) a0_0 a0_1 a0_2 a0_3 l0_4))))) else ((term_Principal.f a0_0 a0_1 a0_2).bind fun t642 => (if t642 = true then (term_CheckAtom.j0 k false a0_0 a0_1 a0_2 a0_3 l0_4) else ((term_Variable.f a0_0 a0_1 a0_2).bind fun t643 => (term_CheckAtom.j0 k (!t643) a0_0 a0_1 a0_2 a0_3 l0_4)))))) else (some 21))
set_option maxHeartbeats 8000000 in
set_option maxRecDepth 100000 in
theorem term_CheckAtom.calls (k : Nat) (a0_0 : Int) (a0_1 : Int) (a0_2 : ByteArray) (a0_3 : ByteArray) (A0_4 : Option Addr) (c0_4 : Nat) (l0_4 : List (S23)) (r : Int) (w : World) (hr0_4 : Kd.C k23 w A0_4 l0_4.length l0_4) (hc0_4 : l0_4.length ≤ c0_4) (hLD2 : Laid2 w) (h : term_CheckAtom.f k a0_0 a0_1 a0_2 a0_3 l0_4 = some r) :
    Calls Tryd.prog 39 #[.agg #[.int .i64 a0_0, .int .i64 a0_1, .string a0_2, .string a0_3, .slice A0_4 l0_4.length c0_4]] w fun e w' => e = .returned (.int .i64 r) ∧ Below w.heap.size w w' := by
  have hu26 := Tryd.underlying26
  have hu23 := Tryd.underlying23
  have HLD2 := Aside0.mk hLD2
  clear hLD2
  have HR0_4 := Aside0.mk hr0_4
  have HC0_4 := Aside0.mk hc0_4
  clear hr0_4 hc0_4
  have HB := Aside0.mk (Below.refl w.heap.size w)
  have H : ((term_name.f k a0_3).bind fun t637 => (if t637 = true then (if (l0_4.length : Int) > 8 then (some 22) else (if a0_0 = 0 then (if a0_1 = 0 then (if a0_2.toList = ([] : List UInt8) then (term_CheckAtom.j0 k false a0_0 a0_1 a0_2 a0_3 l0_4) else ((term_Principal.f a0_0 a0_1 a0_2).bind fun t638 => (if t638 = true then (term_CheckAtom.j0 k false a0_0 a0_1 a0_2 a0_3 l0_4) else ((term_Variable.f a0_0 a0_1 a0_2).bind fun t639 => (term_CheckAtom.j0 k (!t639) a0_0 a0_1 a0_2 a0_3 l0_4))))) else ((term_Principal.f a0_0 a0_1 a0_2).bind fun t640 => (if t640 = true then (term_CheckAtom.j0 k false a0_0 a0_1 a0_2 a0_3 l0_4) else ((term_Variable.f a0_0 a0_1 a0_2).bind fun t641 => (term_CheckAtom.j0 k (!t641) a0_0 a0_1 a0_2 a0_3 l0_4))))) else ((term_Principal.f a0_0 a0_1 a0_2).bind fun t642 => (if t642 = true then (term_CheckAtom.j0 k false a0_0 a0_1 a0_2 a0_3 l0_4) else ((term_Variable.f a0_0 a0_1 a0_2).bind fun t643 => (term_CheckAtom.j0 k (!t643) a0_0 a0_1 a0_2 a0_3 l0_4)))))) else (some 21))) = some r := h
  clear h
  replace H := Option.bind_eq_some_iff.mp H
  obtain ⟨t637, A20, H⟩ := H
  replace H : (if t637 = true then (if (l0_4.length : Int) > 8 then (some 22) else (if a0_0 = 0 then (if a0_1 = 0 then (if a0_2.toList = ([] : List UInt8) then (term_CheckAtom.j0 k false a0_0 a0_1 a0_2 a0_3 l0_4) else ((term_Principal.f a0_0 a0_1 a0_2).bind fun t638 => (if t638 = true then (term_CheckAtom.j0 k false a0_0 a0_1 a0_2 a0_3 l0_4) else ((term_Variable.f a0_0 a0_1 a0_2).bind fun t639 => (term_CheckAtom.j0 k (!t639) a0_0 a0_1 a0_2 a0_3 l0_4))))) else ((term_Principal.f a0_0 a0_1 a0_2).bind fun t640 => (if t640 = true then (term_CheckAtom.j0 k false a0_0 a0_1 a0_2 a0_3 l0_4) else ((term_Variable.f a0_0 a0_1 a0_2).bind fun t641 => (term_CheckAtom.j0 k (!t641) a0_0 a0_1 a0_2 a0_3 l0_4))))) else ((term_Principal.f a0_0 a0_1 a0_2).bind fun t642 => (if t642 = true then (term_CheckAtom.j0 k false a0_0 a0_1 a0_2 a0_3 l0_4) else ((term_Variable.f a0_0 a0_1 a0_2).bind fun t643 => (term_CheckAtom.j0 k (!t643) a0_0 a0_1 a0_2 a0_3 l0_4)))))) else (some 21)) = some r := H
  have A2 := Aside0.mk A20
  clear A20
  by_cases c3 : t637 = true
  · subst c3
    have H1 : (if (l0_4.length : Int) > 8 then (some 22) else (if a0_0 = 0 then (if a0_1 = 0 then (if a0_2.toList = ([] : List UInt8) then (term_CheckAtom.j0 k false a0_0 a0_1 a0_2 a0_3 l0_4) else ((term_Principal.f a0_0 a0_1 a0_2).bind fun t638 => (if t638 = true then (term_CheckAtom.j0 k false a0_0 a0_1 a0_2 a0_3 l0_4) else ((term_Variable.f a0_0 a0_1 a0_2).bind fun t639 => (term_CheckAtom.j0 k (!t639) a0_0 a0_1 a0_2 a0_3 l0_4))))) else ((term_Principal.f a0_0 a0_1 a0_2).bind fun t640 => (if t640 = true then (term_CheckAtom.j0 k false a0_0 a0_1 a0_2 a0_3 l0_4) else ((term_Variable.f a0_0 a0_1 a0_2).bind fun t641 => (term_CheckAtom.j0 k (!t641) a0_0 a0_1 a0_2 a0_3 l0_4))))) else ((term_Principal.f a0_0 a0_1 a0_2).bind fun t642 => (if t642 = true then (term_CheckAtom.j0 k false a0_0 a0_1 a0_2 a0_3 l0_4) else ((term_Variable.f a0_0 a0_1 a0_2).bind fun t643 => (term_CheckAtom.j0 k (!t643) a0_0 a0_1 a0_2 a0_3 l0_4)))))) = some r := by rw [if_pos rfl] at H; exact H
    clear H
    have H := H1
    clear H1
    by_cases c4 : (l0_4.length : Int) > 8
    · rw [if_pos c4] at H
      have c4b0 : decide (8 < (l0_4.length : Int)) = true := decide_eq_true c4
      have c4b1 : decide (8 < l0_4.length) = true := decide_eq_true (by omega)
      clear c4
      obtain rfl := Option.some.inj H
      go_enter Tryd.func39, Tryd.ntmps39
      go_wp2_with (first | ((with_reducible refine gate_dst (N := 1) rfl ?_); refine box_event ?hg (N := 1) ?hd (cs := #[.int .i64 a0_0, .int .i64 a0_1, .string a0_2, .string a0_3, .slice A0_4 l0_4.length c0_4]) (t := 26) ?hr ?_; (case hd => rfl); (case hg => rfl); (case hr => first | (go_simp; done) | (go_simp; rfl)); intro gb636 hg w5 hbox hb; have n0_ := Aside0.mk (below_step (by repeat (first | (with_reducible first | exact HB.out | apply below_alloc | apply pw_below_drewN | apply below_drew1) | exact HB.out)) hb); have n1_ := Aside0.mk (hbox); have n2_ := Aside0.mk ((by rw [hg]; exact (below_size (by repeat (first | (with_reducible first | exact HB.out | apply below_alloc | apply pw_below_drewN | apply below_drew1) | exact HB.out))) : w.heap.size ≤ gb636)); have n3_ := Aside0.mk ((by rw [hg]; exact (below_size (by repeat (first | (with_reducible first | exact HB.out | apply below_alloc | apply pw_below_drewN | apply below_drew1) | exact HB.out))) : w.heap.size ≤ gb636)); clear HB; have HB := n0_; have BK636 := n1_; have GW636 := n2_; have GE636 := n3_; clear n0_ n1_ n2_ n3_; clear hb hbox hg; have hcz6_0 : w5.cell? ⟨gb636, 0, none⟩ = some (.int .i64 a0_0) := (blk_cell BK636.out 0).trans rfl; have hcz6_1 : w5.cell? ⟨gb636, 1, none⟩ = some (.int .i64 a0_1) := (blk_cell BK636.out 1).trans rfl; have hcz6_2 : w5.cell? ⟨gb636, 2, none⟩ = some (.string a0_2) := (blk_cell BK636.out 2).trans rfl; have hcz6_3 : w5.cell? ⟨gb636, 3, none⟩ = some (.string a0_3) := (blk_cell BK636.out 3).trans rfl; have hcz6_4 : w5.cell? ⟨gb636, 4, none⟩ = some (.slice A0_4 l0_4.length c0_4) := (blk_cell BK636.out 4).trans rfl; have hfz6_0 := blk_frozen BK636.out 0; have hfz6_1 := blk_frozen BK636.out 1; have hfz6_2 := blk_frozen BK636.out 2; have hfz6_3 := blk_frozen BK636.out 3; have hfz6_4 := blk_frozen BK636.out 4) | ((with_reducible refine gate_callee (f := 69) rfl ?_); refine goesL_ (some 6) rfl rfl Tryd.func69 (by kernel_rfl) rfl #[.string a0_3] rfl (by (try simp only [List.map_toArray, List.map_cons, List.map_nil]); first | done | rfl | (simp only [List.length_drop, List.length_take]; rfl)) ?_; (with_reducible refine (term_name.calls k a0_3 true _ A2.out).mono ?_); rintro e w' ⟨rfl, ⟨nd, rfl⟩⟩; refine ⟨_, rfl, ?_⟩))
      go_ret
      exact ⟨by first | rfl | (simp [errW_none, errW_some] <;> rfl) | (simp [errW_none, errW_some, bne, show ∀ l_ : List UInt8, (l_ == []) = l_.isEmpty from fun l_ => by cases l_ <;> rfl]; done) | (simp [*, errW_none, errW_some] <;> rfl), by repeat (first | (with_reducible first | exact HB.out | apply below_alloc | apply pw_below_drewN | apply below_drew1 | refine below_set ?_ GE636.out) | exact HB.out)⟩
    · rw [if_neg c4] at H
      have c4b0 : decide (8 < (l0_4.length : Int)) = false := decide_eq_false c4
      have c4b1 : decide (8 < l0_4.length) = false := decide_eq_false (by omega)
      clear c4
      have HC7 := Aside0.mk H
      clear H
      go_enter Tryd.func39, Tryd.ntmps39
      go_upto_region 5 with (first | ((with_reducible refine gate_dst (N := 1) rfl ?_); refine box_event ?hg (N := 1) ?hd (cs := #[.int .i64 a0_0, .int .i64 a0_1, .string a0_2, .string a0_3, .slice A0_4 l0_4.length c0_4]) (t := 26) ?hr ?_; (case hd => rfl); (case hg => rfl); (case hr => first | (go_simp; done) | (go_simp; rfl)); intro gb636 hg w8 hbox hb; have n0_ := Aside0.mk (below_step (by repeat (first | (with_reducible first | exact HB.out | apply below_alloc | apply pw_below_drewN | apply below_drew1) | exact HB.out)) hb); have n1_ := Aside0.mk (hbox); have n2_ := Aside0.mk ((by rw [hg]; exact (below_size (by repeat (first | (with_reducible first | exact HB.out | apply below_alloc | apply pw_below_drewN | apply below_drew1) | exact HB.out))) : w.heap.size ≤ gb636)); have n3_ := Aside0.mk ((by rw [hg]; exact (below_size (by repeat (first | (with_reducible first | exact HB.out | apply below_alloc | apply pw_below_drewN | apply below_drew1) | exact HB.out))) : w.heap.size ≤ gb636)); clear HB; have HB := n0_; have BK636 := n1_; have GW636 := n2_; have GE636 := n3_; clear n0_ n1_ n2_ n3_; clear hb hbox hg; have hcz9_0 : w8.cell? ⟨gb636, 0, none⟩ = some (.int .i64 a0_0) := (blk_cell BK636.out 0).trans rfl; have hcz9_1 : w8.cell? ⟨gb636, 1, none⟩ = some (.int .i64 a0_1) := (blk_cell BK636.out 1).trans rfl; have hcz9_2 : w8.cell? ⟨gb636, 2, none⟩ = some (.string a0_2) := (blk_cell BK636.out 2).trans rfl; have hcz9_3 : w8.cell? ⟨gb636, 3, none⟩ = some (.string a0_3) := (blk_cell BK636.out 3).trans rfl; have hcz9_4 : w8.cell? ⟨gb636, 4, none⟩ = some (.slice A0_4 l0_4.length c0_4) := (blk_cell BK636.out 4).trans rfl; have hfz9_0 := blk_frozen BK636.out 0; have hfz9_1 := blk_frozen BK636.out 1; have hfz9_2 := blk_frozen BK636.out 2; have hfz9_3 := blk_frozen BK636.out 3; have hfz9_4 := blk_frozen BK636.out 4) | ((with_reducible refine gate_callee (f := 69) rfl ?_); refine goesL_ (some 6) rfl rfl Tryd.func69 (by kernel_rfl) rfl #[.string a0_3] rfl (by (try simp only [List.map_toArray, List.map_cons, List.map_nil]); first | done | rfl | (simp only [List.length_drop, List.length_take]; rfl)) ?_; (with_reducible refine (term_name.calls k a0_3 true _ A2.out).mono ?_); rintro e w' ⟨rfl, ⟨nd, rfl⟩⟩; refine ⟨_, rfl, ?_⟩))
      (try simp only [Act.put, List.setIfInBounds_toArray, List.set_cons_zero, List.set_cons_succ])
      go_cut [13] (fun v13 wc => ∃ (kq : Nat) (x13_6 : Bool), v13 = .bool x13_6 ∧ Aside0 (term_CheckAtom.j0 kq x13_6 a0_0 a0_1 a0_2 a0_3 l0_4 = some r) ∧ Aside0 (kq ≤ k) ∧ Aside0 (wc.heap[gb636]? = some (.cells #[.int .i64 a0_0, .int .i64 a0_1, .string a0_2, .string a0_3, (.slice A0_4 l0_4.length c0_4)] 26 (0, 0))) ∧ Aside0 (Below w.heap.size w wc))
      case first =>
        have H := HC7.out
        clear HC7
        by_cases c10 : a0_0 = 0
        · rw [if_pos c10] at H
          have c10b0 : (a0_0 == 0) = true := beq_iff_eq.mpr c10
          have c10b1 : (a0_0 != 0) = false := bne_eq_false_iff_eq.mpr c10
          clear c10
          (first | rw [c10b0] | (simp only [i64_w, i32_w]; rw [c10b0]) | skip)
          by_cases c11 : a0_1 = 0
          · rw [if_pos c11] at H
            have c11b0 : (a0_1 == 0) = true := beq_iff_eq.mpr c11
            have c11b1 : (a0_1 != 0) = false := bne_eq_false_iff_eq.mpr c11
            clear c11
            by_cases c12 : a0_2.toList = ([] : List UInt8)
            · rw [if_pos c12] at H
              have c12b0 : (a0_2.toList == ([] : List UInt8)) = true := beq_iff_eq.mpr c12
              have c12b1 : (a0_2.toList != ([] : List UInt8)) = false := bne_eq_false_iff_eq.mpr c12
              clear c12
              have H' := Aside0.mk H
              clear H
              have hcz13_0 : w8.cell? ⟨gb636, 0, none⟩ = some (.int .i64 a0_0) := (blk_cell BK636.out 0).trans rfl
              have hcz13_1 : w8.cell? ⟨gb636, 1, none⟩ = some (.int .i64 a0_1) := (blk_cell BK636.out 1).trans rfl
              have hcz13_2 : w8.cell? ⟨gb636, 2, none⟩ = some (.string a0_2) := (blk_cell BK636.out 2).trans rfl
              have hcz13_3 : w8.cell? ⟨gb636, 3, none⟩ = some (.string a0_3) := (blk_cell BK636.out 3).trans rfl
              have hcz13_4 : w8.cell? ⟨gb636, 4, none⟩ = some (.slice A0_4 l0_4.length c0_4) := (blk_cell BK636.out 4).trans rfl
              have hfz13_0 := blk_frozen BK636.out 0
              have hfz13_1 := blk_frozen BK636.out 1
              have hfz13_2 := blk_frozen BK636.out 2
              have hfz13_3 := blk_frozen BK636.out 3
              have hfz13_4 := blk_frozen BK636.out 4
              have hglz14_0 : w8.cell? ⟨2, 0, none⟩ = some (.int .i64 0) := (Laid2.up HLD2.out (by repeat (first | (with_reducible first | exact HB.out | apply below_alloc | apply pw_below_drewN | apply below_drew1 | refine below_set ?_ GE636.out) | exact HB.out))).1
              have hglz14_1 : w8.cell? ⟨2, 1, none⟩ = some (.int .i64 0) := (Laid2.up HLD2.out (by repeat (first | (with_reducible first | exact HB.out | apply below_alloc | apply pw_below_drewN | apply below_drew1 | refine below_set ?_ GE636.out) | exact HB.out))).2.1
              have hglz14_2 : w8.cell? ⟨2, 2, none⟩ = some (.string (⟨#[]⟩ : ByteArray)) := (Laid2.up HLD2.out (by repeat (first | (with_reducible first | exact HB.out | apply below_alloc | apply pw_below_drewN | apply below_drew1 | refine below_set ?_ GE636.out) | exact HB.out))).2.2
              go_wp2
              go_meet
              case rel => exact ⟨_, (false), (by first | rfl | (simp; done) | (simp [*]; done)), H', ⟨by first | omega | exact Nat.le_refl _⟩, ⟨by (with_reducible repeat (first | refine blk_drewN ?_ _ | refine blk_drew ?_ | refine blk_alloc ?_ _)); exact BK636.out⟩, ⟨by repeat (first | (with_reducible first | exact HB.out | apply below_alloc | apply pw_below_drewN | apply below_drew1 | refine below_set ?_ GE636.out) | exact HB.out)⟩⟩
            · rw [if_neg c12] at H
              have c12b0 : (a0_2.toList == ([] : List UInt8)) = false := beq_eq_false_iff_ne.mpr c12
              have c12b1 : (a0_2.toList != ([] : List UInt8)) = true := bne_iff_ne.mpr c12
              replace H := Option.bind_eq_some_iff.mp H
              obtain ⟨t638, A150, H⟩ := H
              replace H : (if t638 = true then (term_CheckAtom.j0 k false a0_0 a0_1 a0_2 a0_3 l0_4) else ((term_Variable.f a0_0 a0_1 a0_2).bind fun t639 => (term_CheckAtom.j0 k (!t639) a0_0 a0_1 a0_2 a0_3 l0_4))) = some r := H
              have A15 := Aside0.mk A150
              clear A150
              by_cases c16 : t638 = true
              · subst c16
                have H1 : (term_CheckAtom.j0 k false a0_0 a0_1 a0_2 a0_3 l0_4) = some r := by rw [if_pos rfl] at H; exact H
                clear H
                have H := H1
                clear H1
                have H' := Aside0.mk H
                clear H
                have hcz17_0 : w8.cell? ⟨gb636, 0, none⟩ = some (.int .i64 a0_0) := (blk_cell BK636.out 0).trans rfl
                have hcz17_1 : w8.cell? ⟨gb636, 1, none⟩ = some (.int .i64 a0_1) := (blk_cell BK636.out 1).trans rfl
                have hcz17_2 : w8.cell? ⟨gb636, 2, none⟩ = some (.string a0_2) := (blk_cell BK636.out 2).trans rfl
                have hcz17_3 : w8.cell? ⟨gb636, 3, none⟩ = some (.string a0_3) := (blk_cell BK636.out 3).trans rfl
                have hcz17_4 : w8.cell? ⟨gb636, 4, none⟩ = some (.slice A0_4 l0_4.length c0_4) := (blk_cell BK636.out 4).trans rfl
                have hfz17_0 := blk_frozen BK636.out 0
                have hfz17_1 := blk_frozen BK636.out 1
                have hfz17_2 := blk_frozen BK636.out 2
                have hfz17_3 := blk_frozen BK636.out 3
                have hfz17_4 := blk_frozen BK636.out 4
                have hglz18_0 : w8.cell? ⟨2, 0, none⟩ = some (.int .i64 0) := (Laid2.up HLD2.out (by repeat (first | (with_reducible first | exact HB.out | apply below_alloc | apply pw_below_drewN | apply below_drew1 | refine below_set ?_ GE636.out) | exact HB.out))).1
                have hglz18_1 : w8.cell? ⟨2, 1, none⟩ = some (.int .i64 0) := (Laid2.up HLD2.out (by repeat (first | (with_reducible first | exact HB.out | apply below_alloc | apply pw_below_drewN | apply below_drew1 | refine below_set ?_ GE636.out) | exact HB.out))).2.1
                have hglz18_2 : w8.cell? ⟨2, 2, none⟩ = some (.string (⟨#[]⟩ : ByteArray)) := (Laid2.up HLD2.out (by repeat (first | (with_reducible first | exact HB.out | apply below_alloc | apply pw_below_drewN | apply below_drew1 | refine below_set ?_ GE636.out) | exact HB.out))).2.2
                go_wp2_with (first | (go_at_call 61; (with_reducible refine (term_Principal.calls a0_0 a0_1 a0_2 true _ A15.out).mono ?_); rintro e w19 ⟨rfl, hb⟩; have n0_ := Aside0.mk (blk_below (g := gb636) (o := .cells #[.int .i64 a0_0, .int .i64 a0_1, .string a0_2, .string a0_3, .slice A0_4 l0_4.length c0_4] 26 (0, 0)) (by (with_reducible repeat (first | refine blk_drewN ?_ _ | refine blk_drew ?_ | refine blk_alloc ?_ _)); exact BK636.out) hb); have n1_ := Aside0.mk (below_step (by repeat (first | (with_reducible first | exact HB.out | apply below_alloc | apply pw_below_drewN | apply below_drew1 | refine below_set ?_ GE636.out) | exact HB.out)) hb); clear BK636; clear HB; have BK636 := n0_; have HB := n1_; clear n0_ n1_; (try clear hb); (try clear hb2); (try clear hk); (try clear hi)))
                go_meet
                case rel => exact ⟨_, (false), (by first | rfl | (simp; done) | (simp [*]; done)), H', ⟨by first | omega | exact Nat.le_refl _⟩, ⟨by (with_reducible repeat (first | refine blk_drewN ?_ _ | refine blk_drew ?_ | refine blk_alloc ?_ _)); exact BK636.out⟩, ⟨by repeat (first | (with_reducible first | exact HB.out | apply below_alloc | apply pw_below_drewN | apply below_drew1 | refine below_set ?_ GE636.out) | exact HB.out)⟩⟩
              · replace c16 := Bool.eq_false_iff.mpr c16
                subst c16
                have H1 : ((term_Variable.f a0_0 a0_1 a0_2).bind fun t639 => (term_CheckAtom.j0 k (!t639) a0_0 a0_1 a0_2 a0_3 l0_4)) = some r := by rw [if_neg (show ¬ (false = true) by decide)] at H; exact H
                clear H
                have H := H1
                clear H1
                replace H := Option.bind_eq_some_iff.mp H
                obtain ⟨t639, A200, H⟩ := H
                replace H : (term_CheckAtom.j0 k (!t639) a0_0 a0_1 a0_2 a0_3 l0_4) = some r := H
                have A20 := Aside0.mk A200
                clear A200
                have H' := Aside0.mk H
                clear H
                have hcz21_0 : w8.cell? ⟨gb636, 0, none⟩ = some (.int .i64 a0_0) := (blk_cell BK636.out 0).trans rfl
                have hcz21_1 : w8.cell? ⟨gb636, 1, none⟩ = some (.int .i64 a0_1) := (blk_cell BK636.out 1).trans rfl
                have hcz21_2 : w8.cell? ⟨gb636, 2, none⟩ = some (.string a0_2) := (blk_cell BK636.out 2).trans rfl
                have hcz21_3 : w8.cell? ⟨gb636, 3, none⟩ = some (.string a0_3) := (blk_cell BK636.out 3).trans rfl
                have hcz21_4 : w8.cell? ⟨gb636, 4, none⟩ = some (.slice A0_4 l0_4.length c0_4) := (blk_cell BK636.out 4).trans rfl
                have hfz21_0 := blk_frozen BK636.out 0
                have hfz21_1 := blk_frozen BK636.out 1
                have hfz21_2 := blk_frozen BK636.out 2
                have hfz21_3 := blk_frozen BK636.out 3
                have hfz21_4 := blk_frozen BK636.out 4
                have hglz22_0 : w8.cell? ⟨2, 0, none⟩ = some (.int .i64 0) := (Laid2.up HLD2.out (by repeat (first | (with_reducible first | exact HB.out | apply below_alloc | apply pw_below_drewN | apply below_drew1 | refine below_set ?_ GE636.out) | exact HB.out))).1
                have hglz22_1 : w8.cell? ⟨2, 1, none⟩ = some (.int .i64 0) := (Laid2.up HLD2.out (by repeat (first | (with_reducible first | exact HB.out | apply below_alloc | apply pw_below_drewN | apply below_drew1 | refine below_set ?_ GE636.out) | exact HB.out))).2.1
                have hglz22_2 : w8.cell? ⟨2, 2, none⟩ = some (.string (⟨#[]⟩ : ByteArray)) := (Laid2.up HLD2.out (by repeat (first | (with_reducible first | exact HB.out | apply below_alloc | apply pw_below_drewN | apply below_drew1 | refine below_set ?_ GE636.out) | exact HB.out))).2.2
                go_wp2_with (first | (go_at_call 61; (with_reducible refine (term_Principal.calls a0_0 a0_1 a0_2 false _ A15.out).mono ?_); rintro e w23 ⟨rfl, hb⟩; have n0_ := Aside0.mk (blk_below (g := gb636) (o := .cells #[.int .i64 a0_0, .int .i64 a0_1, .string a0_2, .string a0_3, .slice A0_4 l0_4.length c0_4] 26 (0, 0)) (by (with_reducible repeat (first | refine blk_drewN ?_ _ | refine blk_drew ?_ | refine blk_alloc ?_ _)); exact BK636.out) hb); have n1_ := Aside0.mk (below_step (by repeat (first | (with_reducible first | exact HB.out | apply below_alloc | apply pw_below_drewN | apply below_drew1 | refine below_set ?_ GE636.out) | exact HB.out)) hb); clear BK636; clear HB; have BK636 := n0_; have HB := n1_; clear n0_ n1_; (try clear hb); (try clear hb2); (try clear hk); (try clear hi); have hcz24_0 : w23.cell? ⟨gb636, 0, none⟩ = some (.int .i64 a0_0) := (blk_cell BK636.out 0).trans rfl; have hcz24_1 : w23.cell? ⟨gb636, 1, none⟩ = some (.int .i64 a0_1) := (blk_cell BK636.out 1).trans rfl; have hcz24_2 : w23.cell? ⟨gb636, 2, none⟩ = some (.string a0_2) := (blk_cell BK636.out 2).trans rfl; have hcz24_3 : w23.cell? ⟨gb636, 3, none⟩ = some (.string a0_3) := (blk_cell BK636.out 3).trans rfl; have hcz24_4 : w23.cell? ⟨gb636, 4, none⟩ = some (.slice A0_4 l0_4.length c0_4) := (blk_cell BK636.out 4).trans rfl; have hfz24_0 := blk_frozen BK636.out 0; have hfz24_1 := blk_frozen BK636.out 1; have hfz24_2 := blk_frozen BK636.out 2; have hfz24_3 := blk_frozen BK636.out 3; have hfz24_4 := blk_frozen BK636.out 4) | (go_at_call 27; (with_reducible refine (term_Variable.calls a0_0 a0_1 a0_2 t639 _ A20.out).mono ?_); rintro e w25 ⟨rfl, hb⟩; have n0_ := Aside0.mk (blk_below (g := gb636) (o := .cells #[.int .i64 a0_0, .int .i64 a0_1, .string a0_2, .string a0_3, .slice A0_4 l0_4.length c0_4] 26 (0, 0)) (by (with_reducible repeat (first | refine blk_drewN ?_ _ | refine blk_drew ?_ | refine blk_alloc ?_ _)); exact BK636.out) hb); have n1_ := Aside0.mk (below_step (by repeat (first | (with_reducible first | exact HB.out | apply below_alloc | apply pw_below_drewN | apply below_drew1 | refine below_set ?_ GE636.out) | exact HB.out)) hb); clear BK636; clear HB; have BK636 := n0_; have HB := n1_; clear n0_ n1_; (try clear hb); (try clear hb2); (try clear hk); (try clear hi)))
                go_meet
                case rel => exact ⟨_, (!t639), (by first | rfl | (simp; done) | (simp [*]; done)), H', ⟨by first | omega | exact Nat.le_refl _⟩, ⟨by (with_reducible repeat (first | refine blk_drewN ?_ _ | refine blk_drew ?_ | refine blk_alloc ?_ _)); exact BK636.out⟩, ⟨by repeat (first | (with_reducible first | exact HB.out | apply below_alloc | apply pw_below_drewN | apply below_drew1 | refine below_set ?_ GE636.out) | exact HB.out)⟩⟩
          · rw [if_neg c11] at H
            have c11b0 : (a0_1 == 0) = false := beq_eq_false_iff_ne.mpr c11
            have c11b1 : (a0_1 != 0) = true := bne_iff_ne.mpr c11
            replace H := Option.bind_eq_some_iff.mp H
            obtain ⟨t640, A260, H⟩ := H
            replace H : (if t640 = true then (term_CheckAtom.j0 k false a0_0 a0_1 a0_2 a0_3 l0_4) else ((term_Variable.f a0_0 a0_1 a0_2).bind fun t641 => (term_CheckAtom.j0 k (!t641) a0_0 a0_1 a0_2 a0_3 l0_4))) = some r := H
            have A26 := Aside0.mk A260
            clear A260
            by_cases c27 : t640 = true
            · subst c27
              have H1 : (term_CheckAtom.j0 k false a0_0 a0_1 a0_2 a0_3 l0_4) = some r := by rw [if_pos rfl] at H; exact H
              clear H
              have H := H1
              clear H1
              have H' := Aside0.mk H
              clear H
              have hcz28_0 : w8.cell? ⟨gb636, 0, none⟩ = some (.int .i64 a0_0) := (blk_cell BK636.out 0).trans rfl
              have hcz28_1 : w8.cell? ⟨gb636, 1, none⟩ = some (.int .i64 a0_1) := (blk_cell BK636.out 1).trans rfl
              have hcz28_2 : w8.cell? ⟨gb636, 2, none⟩ = some (.string a0_2) := (blk_cell BK636.out 2).trans rfl
              have hcz28_3 : w8.cell? ⟨gb636, 3, none⟩ = some (.string a0_3) := (blk_cell BK636.out 3).trans rfl
              have hcz28_4 : w8.cell? ⟨gb636, 4, none⟩ = some (.slice A0_4 l0_4.length c0_4) := (blk_cell BK636.out 4).trans rfl
              have hfz28_0 := blk_frozen BK636.out 0
              have hfz28_1 := blk_frozen BK636.out 1
              have hfz28_2 := blk_frozen BK636.out 2
              have hfz28_3 := blk_frozen BK636.out 3
              have hfz28_4 := blk_frozen BK636.out 4
              have hglz29_0 : w8.cell? ⟨2, 0, none⟩ = some (.int .i64 0) := (Laid2.up HLD2.out (by repeat (first | (with_reducible first | exact HB.out | apply below_alloc | apply pw_below_drewN | apply below_drew1 | refine below_set ?_ GE636.out) | exact HB.out))).1
              have hglz29_1 : w8.cell? ⟨2, 1, none⟩ = some (.int .i64 0) := (Laid2.up HLD2.out (by repeat (first | (with_reducible first | exact HB.out | apply below_alloc | apply pw_below_drewN | apply below_drew1 | refine below_set ?_ GE636.out) | exact HB.out))).2.1
              have hglz29_2 : w8.cell? ⟨2, 2, none⟩ = some (.string (⟨#[]⟩ : ByteArray)) := (Laid2.up HLD2.out (by repeat (first | (with_reducible first | exact HB.out | apply below_alloc | apply pw_below_drewN | apply below_drew1 | refine below_set ?_ GE636.out) | exact HB.out))).2.2
              go_wp2_with (first | (go_at_call 61; (with_reducible refine (term_Principal.calls a0_0 a0_1 a0_2 true _ A26.out).mono ?_); rintro e w30 ⟨rfl, hb⟩; have n0_ := Aside0.mk (blk_below (g := gb636) (o := .cells #[.int .i64 a0_0, .int .i64 a0_1, .string a0_2, .string a0_3, .slice A0_4 l0_4.length c0_4] 26 (0, 0)) (by (with_reducible repeat (first | refine blk_drewN ?_ _ | refine blk_drew ?_ | refine blk_alloc ?_ _)); exact BK636.out) hb); have n1_ := Aside0.mk (below_step (by repeat (first | (with_reducible first | exact HB.out | apply below_alloc | apply pw_below_drewN | apply below_drew1 | refine below_set ?_ GE636.out) | exact HB.out)) hb); clear BK636; clear HB; have BK636 := n0_; have HB := n1_; clear n0_ n1_; (try clear hb); (try clear hb2); (try clear hk); (try clear hi)))
              go_meet
              case rel => exact ⟨_, (false), (by first | rfl | (simp; done) | (simp [*]; done)), H', ⟨by first | omega | exact Nat.le_refl _⟩, ⟨by (with_reducible repeat (first | refine blk_drewN ?_ _ | refine blk_drew ?_ | refine blk_alloc ?_ _)); exact BK636.out⟩, ⟨by repeat (first | (with_reducible first | exact HB.out | apply below_alloc | apply pw_below_drewN | apply below_drew1 | refine below_set ?_ GE636.out) | exact HB.out)⟩⟩
            · replace c27 := Bool.eq_false_iff.mpr c27
              subst c27
              have H1 : ((term_Variable.f a0_0 a0_1 a0_2).bind fun t641 => (term_CheckAtom.j0 k (!t641) a0_0 a0_1 a0_2 a0_3 l0_4)) = some r := by rw [if_neg (show ¬ (false = true) by decide)] at H; exact H
              clear H
              have H := H1
              clear H1
              replace H := Option.bind_eq_some_iff.mp H
              obtain ⟨t641, A310, H⟩ := H
              replace H : (term_CheckAtom.j0 k (!t641) a0_0 a0_1 a0_2 a0_3 l0_4) = some r := H
              have A31 := Aside0.mk A310
              clear A310
              have H' := Aside0.mk H
              clear H
              have hcz32_0 : w8.cell? ⟨gb636, 0, none⟩ = some (.int .i64 a0_0) := (blk_cell BK636.out 0).trans rfl
              have hcz32_1 : w8.cell? ⟨gb636, 1, none⟩ = some (.int .i64 a0_1) := (blk_cell BK636.out 1).trans rfl
              have hcz32_2 : w8.cell? ⟨gb636, 2, none⟩ = some (.string a0_2) := (blk_cell BK636.out 2).trans rfl
              have hcz32_3 : w8.cell? ⟨gb636, 3, none⟩ = some (.string a0_3) := (blk_cell BK636.out 3).trans rfl
              have hcz32_4 : w8.cell? ⟨gb636, 4, none⟩ = some (.slice A0_4 l0_4.length c0_4) := (blk_cell BK636.out 4).trans rfl
              have hfz32_0 := blk_frozen BK636.out 0
              have hfz32_1 := blk_frozen BK636.out 1
              have hfz32_2 := blk_frozen BK636.out 2
              have hfz32_3 := blk_frozen BK636.out 3
              have hfz32_4 := blk_frozen BK636.out 4
              have hglz33_0 : w8.cell? ⟨2, 0, none⟩ = some (.int .i64 0) := (Laid2.up HLD2.out (by repeat (first | (with_reducible first | exact HB.out | apply below_alloc | apply pw_below_drewN | apply below_drew1 | refine below_set ?_ GE636.out) | exact HB.out))).1
              have hglz33_1 : w8.cell? ⟨2, 1, none⟩ = some (.int .i64 0) := (Laid2.up HLD2.out (by repeat (first | (with_reducible first | exact HB.out | apply below_alloc | apply pw_below_drewN | apply below_drew1 | refine below_set ?_ GE636.out) | exact HB.out))).2.1
              have hglz33_2 : w8.cell? ⟨2, 2, none⟩ = some (.string (⟨#[]⟩ : ByteArray)) := (Laid2.up HLD2.out (by repeat (first | (with_reducible first | exact HB.out | apply below_alloc | apply pw_below_drewN | apply below_drew1 | refine below_set ?_ GE636.out) | exact HB.out))).2.2
              go_wp2_with (first | (go_at_call 61; (with_reducible refine (term_Principal.calls a0_0 a0_1 a0_2 false _ A26.out).mono ?_); rintro e w34 ⟨rfl, hb⟩; have n0_ := Aside0.mk (blk_below (g := gb636) (o := .cells #[.int .i64 a0_0, .int .i64 a0_1, .string a0_2, .string a0_3, .slice A0_4 l0_4.length c0_4] 26 (0, 0)) (by (with_reducible repeat (first | refine blk_drewN ?_ _ | refine blk_drew ?_ | refine blk_alloc ?_ _)); exact BK636.out) hb); have n1_ := Aside0.mk (below_step (by repeat (first | (with_reducible first | exact HB.out | apply below_alloc | apply pw_below_drewN | apply below_drew1 | refine below_set ?_ GE636.out) | exact HB.out)) hb); clear BK636; clear HB; have BK636 := n0_; have HB := n1_; clear n0_ n1_; (try clear hb); (try clear hb2); (try clear hk); (try clear hi); have hcz35_0 : w34.cell? ⟨gb636, 0, none⟩ = some (.int .i64 a0_0) := (blk_cell BK636.out 0).trans rfl; have hcz35_1 : w34.cell? ⟨gb636, 1, none⟩ = some (.int .i64 a0_1) := (blk_cell BK636.out 1).trans rfl; have hcz35_2 : w34.cell? ⟨gb636, 2, none⟩ = some (.string a0_2) := (blk_cell BK636.out 2).trans rfl; have hcz35_3 : w34.cell? ⟨gb636, 3, none⟩ = some (.string a0_3) := (blk_cell BK636.out 3).trans rfl; have hcz35_4 : w34.cell? ⟨gb636, 4, none⟩ = some (.slice A0_4 l0_4.length c0_4) := (blk_cell BK636.out 4).trans rfl; have hfz35_0 := blk_frozen BK636.out 0; have hfz35_1 := blk_frozen BK636.out 1; have hfz35_2 := blk_frozen BK636.out 2; have hfz35_3 := blk_frozen BK636.out 3; have hfz35_4 := blk_frozen BK636.out 4) | (go_at_call 27; (with_reducible refine (term_Variable.calls a0_0 a0_1 a0_2 t641 _ A31.out).mono ?_); rintro e w36 ⟨rfl, hb⟩; have n0_ := Aside0.mk (blk_below (g := gb636) (o := .cells #[.int .i64 a0_0, .int .i64 a0_1, .string a0_2, .string a0_3, .slice A0_4 l0_4.length c0_4] 26 (0, 0)) (by (with_reducible repeat (first | refine blk_drewN ?_ _ | refine blk_drew ?_ | refine blk_alloc ?_ _)); exact BK636.out) hb); have n1_ := Aside0.mk (below_step (by repeat (first | (with_reducible first | exact HB.out | apply below_alloc | apply pw_below_drewN | apply below_drew1 | refine below_set ?_ GE636.out) | exact HB.out)) hb); clear BK636; clear HB; have BK636 := n0_; have HB := n1_; clear n0_ n1_; (try clear hb); (try clear hb2); (try clear hk); (try clear hi)))
              go_meet
              case rel => exact ⟨_, (!t641), (by first | rfl | (simp; done) | (simp [*]; done)), H', ⟨by first | omega | exact Nat.le_refl _⟩, ⟨by (with_reducible repeat (first | refine blk_drewN ?_ _ | refine blk_drew ?_ | refine blk_alloc ?_ _)); exact BK636.out⟩, ⟨by repeat (first | (with_reducible first | exact HB.out | apply below_alloc | apply pw_below_drewN | apply below_drew1 | refine below_set ?_ GE636.out) | exact HB.out)⟩⟩
        · rw [if_neg c10] at H
          have c10b0 : (a0_0 == 0) = false := beq_eq_false_iff_ne.mpr c10
          have c10b1 : (a0_0 != 0) = true := bne_iff_ne.mpr c10
          (first | rw [c10b0] | (simp only [i64_w, i32_w]; rw [c10b0]) | skip)
          replace H := Option.bind_eq_some_iff.mp H
          obtain ⟨t642, A370, H⟩ := H
          replace H : (if t642 = true then (term_CheckAtom.j0 k false a0_0 a0_1 a0_2 a0_3 l0_4) else ((term_Variable.f a0_0 a0_1 a0_2).bind fun t643 => (term_CheckAtom.j0 k (!t643) a0_0 a0_1 a0_2 a0_3 l0_4))) = some r := H
          have A37 := Aside0.mk A370
          clear A370
          by_cases c38 : t642 = true
          · subst c38
            have H1 : (term_CheckAtom.j0 k false a0_0 a0_1 a0_2 a0_3 l0_4) = some r := by rw [if_pos rfl] at H; exact H
            clear H
            have H := H1
            clear H1
            have H' := Aside0.mk H
            clear H
            have hcz39_0 : w8.cell? ⟨gb636, 0, none⟩ = some (.int .i64 a0_0) := (blk_cell BK636.out 0).trans rfl
            have hcz39_1 : w8.cell? ⟨gb636, 1, none⟩ = some (.int .i64 a0_1) := (blk_cell BK636.out 1).trans rfl
            have hcz39_2 : w8.cell? ⟨gb636, 2, none⟩ = some (.string a0_2) := (blk_cell BK636.out 2).trans rfl
            have hcz39_3 : w8.cell? ⟨gb636, 3, none⟩ = some (.string a0_3) := (blk_cell BK636.out 3).trans rfl
            have hcz39_4 : w8.cell? ⟨gb636, 4, none⟩ = some (.slice A0_4 l0_4.length c0_4) := (blk_cell BK636.out 4).trans rfl
            have hfz39_0 := blk_frozen BK636.out 0
            have hfz39_1 := blk_frozen BK636.out 1
            have hfz39_2 := blk_frozen BK636.out 2
            have hfz39_3 := blk_frozen BK636.out 3
            have hfz39_4 := blk_frozen BK636.out 4
            have hglz40_0 : w8.cell? ⟨2, 0, none⟩ = some (.int .i64 0) := (Laid2.up HLD2.out (by repeat (first | (with_reducible first | exact HB.out | apply below_alloc | apply pw_below_drewN | apply below_drew1 | refine below_set ?_ GE636.out) | exact HB.out))).1
            have hglz40_1 : w8.cell? ⟨2, 1, none⟩ = some (.int .i64 0) := (Laid2.up HLD2.out (by repeat (first | (with_reducible first | exact HB.out | apply below_alloc | apply pw_below_drewN | apply below_drew1 | refine below_set ?_ GE636.out) | exact HB.out))).2.1
            have hglz40_2 : w8.cell? ⟨2, 2, none⟩ = some (.string (⟨#[]⟩ : ByteArray)) := (Laid2.up HLD2.out (by repeat (first | (with_reducible first | exact HB.out | apply below_alloc | apply pw_below_drewN | apply below_drew1 | refine below_set ?_ GE636.out) | exact HB.out))).2.2
            go_wp2_with (first | (go_at_call 61; (with_reducible refine (term_Principal.calls a0_0 a0_1 a0_2 true _ A37.out).mono ?_); rintro e w41 ⟨rfl, hb⟩; have n0_ := Aside0.mk (blk_below (g := gb636) (o := .cells #[.int .i64 a0_0, .int .i64 a0_1, .string a0_2, .string a0_3, .slice A0_4 l0_4.length c0_4] 26 (0, 0)) (by (with_reducible repeat (first | refine blk_drewN ?_ _ | refine blk_drew ?_ | refine blk_alloc ?_ _)); exact BK636.out) hb); have n1_ := Aside0.mk (below_step (by repeat (first | (with_reducible first | exact HB.out | apply below_alloc | apply pw_below_drewN | apply below_drew1 | refine below_set ?_ GE636.out) | exact HB.out)) hb); clear BK636; clear HB; have BK636 := n0_; have HB := n1_; clear n0_ n1_; (try clear hb); (try clear hb2); (try clear hk); (try clear hi)))
            go_meet
            case rel => exact ⟨_, (false), (by first | rfl | (simp; done) | (simp [*]; done)), H', ⟨by first | omega | exact Nat.le_refl _⟩, ⟨by (with_reducible repeat (first | refine blk_drewN ?_ _ | refine blk_drew ?_ | refine blk_alloc ?_ _)); exact BK636.out⟩, ⟨by repeat (first | (with_reducible first | exact HB.out | apply below_alloc | apply pw_below_drewN | apply below_drew1 | refine below_set ?_ GE636.out) | exact HB.out)⟩⟩
          · replace c38 := Bool.eq_false_iff.mpr c38
            subst c38
            have H1 : ((term_Variable.f a0_0 a0_1 a0_2).bind fun t643 => (term_CheckAtom.j0 k (!t643) a0_0 a0_1 a0_2 a0_3 l0_4)) = some r := by rw [if_neg (show ¬ (false = true) by decide)] at H; exact H
            clear H
            have H := H1
            clear H1
            replace H := Option.bind_eq_some_iff.mp H
            obtain ⟨t643, A420, H⟩ := H
            replace H : (term_CheckAtom.j0 k (!t643) a0_0 a0_1 a0_2 a0_3 l0_4) = some r := H
            have A42 := Aside0.mk A420
            clear A420
            have H' := Aside0.mk H
            clear H
            have hcz43_0 : w8.cell? ⟨gb636, 0, none⟩ = some (.int .i64 a0_0) := (blk_cell BK636.out 0).trans rfl
            have hcz43_1 : w8.cell? ⟨gb636, 1, none⟩ = some (.int .i64 a0_1) := (blk_cell BK636.out 1).trans rfl
            have hcz43_2 : w8.cell? ⟨gb636, 2, none⟩ = some (.string a0_2) := (blk_cell BK636.out 2).trans rfl
            have hcz43_3 : w8.cell? ⟨gb636, 3, none⟩ = some (.string a0_3) := (blk_cell BK636.out 3).trans rfl
            have hcz43_4 : w8.cell? ⟨gb636, 4, none⟩ = some (.slice A0_4 l0_4.length c0_4) := (blk_cell BK636.out 4).trans rfl
            have hfz43_0 := blk_frozen BK636.out 0
            have hfz43_1 := blk_frozen BK636.out 1
            have hfz43_2 := blk_frozen BK636.out 2
            have hfz43_3 := blk_frozen BK636.out 3
            have hfz43_4 := blk_frozen BK636.out 4
            have hglz44_0 : w8.cell? ⟨2, 0, none⟩ = some (.int .i64 0) := (Laid2.up HLD2.out (by repeat (first | (with_reducible first | exact HB.out | apply below_alloc | apply pw_below_drewN | apply below_drew1 | refine below_set ?_ GE636.out) | exact HB.out))).1
            have hglz44_1 : w8.cell? ⟨2, 1, none⟩ = some (.int .i64 0) := (Laid2.up HLD2.out (by repeat (first | (with_reducible first | exact HB.out | apply below_alloc | apply pw_below_drewN | apply below_drew1 | refine below_set ?_ GE636.out) | exact HB.out))).2.1
            have hglz44_2 : w8.cell? ⟨2, 2, none⟩ = some (.string (⟨#[]⟩ : ByteArray)) := (Laid2.up HLD2.out (by repeat (first | (with_reducible first | exact HB.out | apply below_alloc | apply pw_below_drewN | apply below_drew1 | refine below_set ?_ GE636.out) | exact HB.out))).2.2
            go_wp2_with (first | (go_at_call 61; (with_reducible refine (term_Principal.calls a0_0 a0_1 a0_2 false _ A37.out).mono ?_); rintro e w45 ⟨rfl, hb⟩; have n0_ := Aside0.mk (blk_below (g := gb636) (o := .cells #[.int .i64 a0_0, .int .i64 a0_1, .string a0_2, .string a0_3, .slice A0_4 l0_4.length c0_4] 26 (0, 0)) (by (with_reducible repeat (first | refine blk_drewN ?_ _ | refine blk_drew ?_ | refine blk_alloc ?_ _)); exact BK636.out) hb); have n1_ := Aside0.mk (below_step (by repeat (first | (with_reducible first | exact HB.out | apply below_alloc | apply pw_below_drewN | apply below_drew1 | refine below_set ?_ GE636.out) | exact HB.out)) hb); clear BK636; clear HB; have BK636 := n0_; have HB := n1_; clear n0_ n1_; (try clear hb); (try clear hb2); (try clear hk); (try clear hi); have hcz46_0 : w45.cell? ⟨gb636, 0, none⟩ = some (.int .i64 a0_0) := (blk_cell BK636.out 0).trans rfl; have hcz46_1 : w45.cell? ⟨gb636, 1, none⟩ = some (.int .i64 a0_1) := (blk_cell BK636.out 1).trans rfl; have hcz46_2 : w45.cell? ⟨gb636, 2, none⟩ = some (.string a0_2) := (blk_cell BK636.out 2).trans rfl; have hcz46_3 : w45.cell? ⟨gb636, 3, none⟩ = some (.string a0_3) := (blk_cell BK636.out 3).trans rfl; have hcz46_4 : w45.cell? ⟨gb636, 4, none⟩ = some (.slice A0_4 l0_4.length c0_4) := (blk_cell BK636.out 4).trans rfl; have hfz46_0 := blk_frozen BK636.out 0; have hfz46_1 := blk_frozen BK636.out 1; have hfz46_2 := blk_frozen BK636.out 2; have hfz46_3 := blk_frozen BK636.out 3; have hfz46_4 := blk_frozen BK636.out 4) | (go_at_call 27; (with_reducible refine (term_Variable.calls a0_0 a0_1 a0_2 t643 _ A42.out).mono ?_); rintro e w47 ⟨rfl, hb⟩; have n0_ := Aside0.mk (blk_below (g := gb636) (o := .cells #[.int .i64 a0_0, .int .i64 a0_1, .string a0_2, .string a0_3, .slice A0_4 l0_4.length c0_4] 26 (0, 0)) (by (with_reducible repeat (first | refine blk_drewN ?_ _ | refine blk_drew ?_ | refine blk_alloc ?_ _)); exact BK636.out) hb); have n1_ := Aside0.mk (below_step (by repeat (first | (with_reducible first | exact HB.out | apply below_alloc | apply pw_below_drewN | apply below_drew1 | refine below_set ?_ GE636.out) | exact HB.out)) hb); clear BK636; clear HB; have BK636 := n0_; have HB := n1_; clear n0_ n1_; (try clear hb); (try clear hb2); (try clear hk); (try clear hi)))
            go_meet
            case rel => exact ⟨_, (!t643), (by first | rfl | (simp; done) | (simp [*]; done)), H', ⟨by first | omega | exact Nat.le_refl _⟩, ⟨by (with_reducible repeat (first | refine blk_drewN ?_ _ | refine blk_drew ?_ | refine blk_alloc ?_ _)); exact BK636.out⟩, ⟨by repeat (first | (with_reducible first | exact HB.out | apply below_alloc | apply pw_below_drewN | apply below_drew1 | refine below_set ?_ GE636.out) | exact HB.out)⟩⟩
      case rest =>
        clear HC7
        try clear c1
        try clear c2
        try clear p2
        try clear c3
        try clear c4
        try clear c4b0
        try clear c4b1
        try clear c6
        try clear c10
        try clear c10b0
        try clear c10b1
        try clear c11
        try clear c11b0
        try clear c11b1
        try clear c12
        try clear c12b0
        try clear c12b1
        try clear c16
        try clear c27
        try clear c38
        try clear c39
        try clear hcz13_0
        try clear hcz13_1
        try clear hcz13_2
        try clear hcz13_3
        try clear hcz13_4
        try clear hcz17_0
        try clear hcz17_1
        try clear hcz17_2
        try clear hcz17_3
        try clear hcz17_4
        try clear hcz21_0
        try clear hcz21_1
        try clear hcz21_2
        try clear hcz21_3
        try clear hcz21_4
        try clear hcz24_0
        try clear hcz24_1
        try clear hcz24_2
        try clear hcz24_3
        try clear hcz24_4
        try clear hcz28_0
        try clear hcz28_1
        try clear hcz28_2
        try clear hcz28_3
        try clear hcz28_4
        try clear hcz32_0
        try clear hcz32_1
        try clear hcz32_2
        try clear hcz32_3
        try clear hcz32_4
        try clear hcz35_0
        try clear hcz35_1
        try clear hcz35_2
        try clear hcz35_3
        try clear hcz35_4
        try clear hcz39_0
        try clear hcz39_1
        try clear hcz39_2
        try clear hcz39_3
        try clear hcz39_4
        try clear hcz43_0
        try clear hcz43_1
        try clear hcz43_2
        try clear hcz43_3
        try clear hcz43_4
        try clear hcz46_0
        try clear hcz46_1
        try clear hcz46_2
        try clear hcz46_3
        try clear hcz46_4
        try clear hcz6_0
        try clear hcz6_1
        try clear hcz6_2
        try clear hcz6_3
        try clear hcz6_4
        try clear hcz9_0
        try clear hcz9_1
        try clear hcz9_2
        try clear hcz9_3
        try clear hcz9_4
        try clear hfz13_0
        try clear hfz13_1
        try clear hfz13_2
        try clear hfz13_3
        try clear hfz13_4
        try clear hfz17_0
        try clear hfz17_1
        try clear hfz17_2
        try clear hfz17_3
        try clear hfz17_4
        try clear hfz21_0
        try clear hfz21_1
        try clear hfz21_2
        try clear hfz21_3
        try clear hfz21_4
        try clear hfz24_0
        try clear hfz24_1
        try clear hfz24_2
        try clear hfz24_3
        try clear hfz24_4
        try clear hfz28_0
        try clear hfz28_1
        try clear hfz28_2
        try clear hfz28_3
        try clear hfz28_4
        try clear hfz32_0
        try clear hfz32_1
        try clear hfz32_2
        try clear hfz32_3
        try clear hfz32_4
        try clear hfz35_0
        try clear hfz35_1
        try clear hfz35_2
        try clear hfz35_3
        try clear hfz35_4
        try clear hfz39_0
        try clear hfz39_1
        try clear hfz39_2
        try clear hfz39_3
        try clear hfz39_4
        try clear hfz43_0
        try clear hfz43_1
        try clear hfz43_2
        try clear hfz43_3
        try clear hfz43_4
        try clear hfz46_0
        try clear hfz46_1
        try clear hfz46_2
        try clear hfz46_3
        try clear hfz46_4
        try clear hfz6_0
        try clear hfz6_1
        try clear hfz6_2
        try clear hfz6_3
        try clear hfz6_4
        try clear hfz9_0
        try clear hfz9_1
        try clear hfz9_2
        try clear hfz9_3
        try clear hfz9_4
        obtain ⟨kq, x13_6, rfl, HA, HJ6, BK636, HB⟩ := hcut
        cases kq with
        | zero => exact absurd HA.out (by simp [term_CheckAtom.j0])
        | succ kj6 =>
          have H := HA.out
          clear HA
          simp only [term_CheckAtom.j0] at H
          by_cases c48 : x13_6 = true
          · subst c48
            have H1 : (some 23) = some r := by rw [if_pos rfl] at H; exact H
            clear H
            have H := H1
            clear H1
            obtain rfl := Option.some.inj H
            go_wp2
            go_ret
            exact ⟨by first | rfl | (simp [errW_none, errW_some] <;> rfl) | (simp [errW_none, errW_some, bne, show ∀ l_ : List UInt8, (l_ == []) = l_.isEmpty from fun l_ => by cases l_ <;> rfl]; done) | (simp [*, errW_none, errW_some] <;> rfl), by repeat (first | (with_reducible first | exact HB.out | apply below_alloc | apply pw_below_drewN | apply below_drew1 | refine below_set ?_ GE636.out) | exact HB.out)⟩
          · replace c48 := Bool.eq_false_iff.mpr c48
            subst c48
            have H1 : ((slices_ContainsFunc_bad.f l0_4).bind fun t644 => (if t644 = true then (some 24) else (some 0))) = some r := by rw [if_neg (show ¬ (false = true) by decide)] at H; exact H
            clear H
            have H := H1
            clear H1
            replace H := Option.bind_eq_some_iff.mp H
            obtain ⟨t644, A490, H⟩ := H
            replace H : (if t644 = true then (some 24) else (some 0)) = some r := H
            have A49 := Aside0.mk A490
            clear A490
            by_cases c50 : t644 = true
            · subst c50
              have H1 : (some 24) = some r := by rw [if_pos rfl] at H; exact H
              clear H
              have H := H1
              clear H1
              obtain rfl := Option.some.inj H
              have hcz51_0 : wc.cell? ⟨gb636, 0, none⟩ = some (.int .i64 a0_0) := (blk_cell BK636.out 0).trans rfl
              have hcz51_1 : wc.cell? ⟨gb636, 1, none⟩ = some (.int .i64 a0_1) := (blk_cell BK636.out 1).trans rfl
              have hcz51_2 : wc.cell? ⟨gb636, 2, none⟩ = some (.string a0_2) := (blk_cell BK636.out 2).trans rfl
              have hcz51_3 : wc.cell? ⟨gb636, 3, none⟩ = some (.string a0_3) := (blk_cell BK636.out 3).trans rfl
              have hcz51_4 : wc.cell? ⟨gb636, 4, none⟩ = some (.slice A0_4 l0_4.length c0_4) := (blk_cell BK636.out 4).trans rfl
              have hfz51_0 := blk_frozen BK636.out 0
              have hfz51_1 := blk_frozen BK636.out 1
              have hfz51_2 := blk_frozen BK636.out 2
              have hfz51_3 := blk_frozen BK636.out 3
              have hfz51_4 := blk_frozen BK636.out 4
              go_wp2_with (first | ((with_reducible refine gate_callee (f := 70) rfl ?_); refine goesL_ (some 33) rfl rfl Tryd.func70 (by kernel_rfl) rfl #[.slice A0_4 l0_4.length c0_4, .func (.func 71) #[] #[]] rfl (by (try simp only [List.map_toArray, List.map_cons, List.map_nil]); first | done | rfl | (simp only [List.length_drop, List.length_take]; rfl)) ?_; (with_reducible refine (slices_ContainsFunc_bad.calls _ _ l0_4 true _ ?side1 ?side2 A49.out).mono ?_); (case side1 => repeat (first | exact (Kd.C_below HR0_4.out HB.out) | (with_reducible refine Kd.C_alloc ?_ _) | (with_reducible refine Kd.C_drewN ?_ _) | (with_reducible refine Kd.C_drew ?_))); (case side2 => exact HC0_4.out); rintro e w52 ⟨rfl, hb⟩; refine ⟨_, rfl, ?_⟩; have n0_ := Aside0.mk (blk_below (g := gb636) (o := .cells #[.int .i64 a0_0, .int .i64 a0_1, .string a0_2, .string a0_3, .slice A0_4 l0_4.length c0_4] 26 (0, 0)) (by (with_reducible repeat (first | refine blk_drewN ?_ _ | refine blk_drew ?_ | refine blk_alloc ?_ _)); exact BK636.out) hb); have n1_ := Aside0.mk (below_step (by repeat (first | (with_reducible first | exact HB.out | apply below_alloc | apply pw_below_drewN | apply below_drew1 | refine below_set ?_ GE636.out) | exact HB.out)) hb); clear BK636; clear HB; have BK636 := n0_; have HB := n1_; clear n0_ n1_; (try clear hb); (try clear hb2); (try clear hk); (try clear hi)))
              go_ret
              exact ⟨by first | rfl | (simp [errW_none, errW_some] <;> rfl) | (simp [errW_none, errW_some, bne, show ∀ l_ : List UInt8, (l_ == []) = l_.isEmpty from fun l_ => by cases l_ <;> rfl]; done) | (simp [*, errW_none, errW_some] <;> rfl), by repeat (first | (with_reducible first | exact HB.out | apply below_alloc | apply pw_below_drewN | apply below_drew1 | refine below_set ?_ GE636.out) | exact HB.out)⟩
            · replace c50 := Bool.eq_false_iff.mpr c50
              subst c50
              have H1 : (some 0) = some r := by rw [if_neg (show ¬ (false = true) by decide)] at H; exact H
              clear H
              have H := H1
              clear H1
              obtain rfl := Option.some.inj H
              have hcz53_0 : wc.cell? ⟨gb636, 0, none⟩ = some (.int .i64 a0_0) := (blk_cell BK636.out 0).trans rfl
              have hcz53_1 : wc.cell? ⟨gb636, 1, none⟩ = some (.int .i64 a0_1) := (blk_cell BK636.out 1).trans rfl
              have hcz53_2 : wc.cell? ⟨gb636, 2, none⟩ = some (.string a0_2) := (blk_cell BK636.out 2).trans rfl
              have hcz53_3 : wc.cell? ⟨gb636, 3, none⟩ = some (.string a0_3) := (blk_cell BK636.out 3).trans rfl
              have hcz53_4 : wc.cell? ⟨gb636, 4, none⟩ = some (.slice A0_4 l0_4.length c0_4) := (blk_cell BK636.out 4).trans rfl
              have hfz53_0 := blk_frozen BK636.out 0
              have hfz53_1 := blk_frozen BK636.out 1
              have hfz53_2 := blk_frozen BK636.out 2
              have hfz53_3 := blk_frozen BK636.out 3
              have hfz53_4 := blk_frozen BK636.out 4
              go_wp2_with (first | ((with_reducible refine gate_callee (f := 70) rfl ?_); refine goesL_ (some 33) rfl rfl Tryd.func70 (by kernel_rfl) rfl #[.slice A0_4 l0_4.length c0_4, .func (.func 71) #[] #[]] rfl (by (try simp only [List.map_toArray, List.map_cons, List.map_nil]); first | done | rfl | (simp only [List.length_drop, List.length_take]; rfl)) ?_; (with_reducible refine (slices_ContainsFunc_bad.calls _ _ l0_4 false _ ?side1 ?side2 A49.out).mono ?_); (case side1 => repeat (first | exact (Kd.C_below HR0_4.out HB.out) | (with_reducible refine Kd.C_alloc ?_ _) | (with_reducible refine Kd.C_drewN ?_ _) | (with_reducible refine Kd.C_drew ?_))); (case side2 => exact HC0_4.out); rintro e w54 ⟨rfl, hb⟩; refine ⟨_, rfl, ?_⟩; have n0_ := Aside0.mk (blk_below (g := gb636) (o := .cells #[.int .i64 a0_0, .int .i64 a0_1, .string a0_2, .string a0_3, .slice A0_4 l0_4.length c0_4] 26 (0, 0)) (by (with_reducible repeat (first | refine blk_drewN ?_ _ | refine blk_drew ?_ | refine blk_alloc ?_ _)); exact BK636.out) hb); have n1_ := Aside0.mk (below_step (by repeat (first | (with_reducible first | exact HB.out | apply below_alloc | apply pw_below_drewN | apply below_drew1 | refine below_set ?_ GE636.out) | exact HB.out)) hb); clear BK636; clear HB; have BK636 := n0_; have HB := n1_; clear n0_ n1_; (try clear hb); (try clear hb2); (try clear hk); (try clear hi)))
              go_ret
              exact ⟨by first | rfl | (simp [errW_none, errW_some] <;> rfl) | (simp [errW_none, errW_some, bne, show ∀ l_ : List UInt8, (l_ == []) = l_.isEmpty from fun l_ => by cases l_ <;> rfl]; done) | (simp [*, errW_none, errW_some] <;> rfl), by repeat (first | (with_reducible first | exact HB.out | apply below_alloc | apply pw_below_drewN | apply below_drew1 | refine below_set ?_ GE636.out) | exact HB.out)⟩
  · replace c3 := Bool.eq_false_iff.mpr c3
    subst c3
    have H1 : (some 21) = some r := by rw [if_neg (show ¬ (false = true) by decide)] at H; exact H
    clear H
    have H := H1
    clear H1
    obtain rfl := Option.some.inj H
    go_enter Tryd.func39, Tryd.ntmps39
    go_wp2_with (first | ((with_reducible refine gate_dst (N := 1) rfl ?_); refine box_event ?hg (N := 1) ?hd (cs := #[.int .i64 a0_0, .int .i64 a0_1, .string a0_2, .string a0_3, .slice A0_4 l0_4.length c0_4]) (t := 26) ?hr ?_; (case hd => rfl); (case hg => rfl); (case hr => first | (go_simp; done) | (go_simp; rfl)); intro gb636 hg w55 hbox hb; have n0_ := Aside0.mk (below_step (by repeat (first | (with_reducible first | exact HB.out | apply below_alloc | apply pw_below_drewN | apply below_drew1) | exact HB.out)) hb); have n1_ := Aside0.mk (hbox); have n2_ := Aside0.mk ((by rw [hg]; exact (below_size (by repeat (first | (with_reducible first | exact HB.out | apply below_alloc | apply pw_below_drewN | apply below_drew1) | exact HB.out))) : w.heap.size ≤ gb636)); have n3_ := Aside0.mk ((by rw [hg]; exact (below_size (by repeat (first | (with_reducible first | exact HB.out | apply below_alloc | apply pw_below_drewN | apply below_drew1) | exact HB.out))) : w.heap.size ≤ gb636)); clear HB; have HB := n0_; have BK636 := n1_; have GW636 := n2_; have GE636 := n3_; clear n0_ n1_ n2_ n3_; clear hb hbox hg; have hcz56_0 : w55.cell? ⟨gb636, 0, none⟩ = some (.int .i64 a0_0) := (blk_cell BK636.out 0).trans rfl; have hcz56_1 : w55.cell? ⟨gb636, 1, none⟩ = some (.int .i64 a0_1) := (blk_cell BK636.out 1).trans rfl; have hcz56_2 : w55.cell? ⟨gb636, 2, none⟩ = some (.string a0_2) := (blk_cell BK636.out 2).trans rfl; have hcz56_3 : w55.cell? ⟨gb636, 3, none⟩ = some (.string a0_3) := (blk_cell BK636.out 3).trans rfl; have hcz56_4 : w55.cell? ⟨gb636, 4, none⟩ = some (.slice A0_4 l0_4.length c0_4) := (blk_cell BK636.out 4).trans rfl; have hfz56_0 := blk_frozen BK636.out 0; have hfz56_1 := blk_frozen BK636.out 1; have hfz56_2 := blk_frozen BK636.out 2; have hfz56_3 := blk_frozen BK636.out 3; have hfz56_4 := blk_frozen BK636.out 4) | ((with_reducible refine gate_callee (f := 69) rfl ?_); refine goesL_ (some 6) rfl rfl Tryd.func69 (by kernel_rfl) rfl #[.string a0_3] rfl (by (try simp only [List.map_toArray, List.map_cons, List.map_nil]); first | done | rfl | (simp only [List.length_drop, List.length_take]; rfl)) ?_; (with_reducible refine (term_name.calls k a0_3 false _ A2.out).mono ?_); rintro e w' ⟨rfl, ⟨nd, rfl⟩⟩; refine ⟨_, rfl, ?_⟩))
    go_ret
    exact ⟨by first | rfl | (simp [errW_none, errW_some] <;> rfl) | (simp [errW_none, errW_some, bne, show ∀ l_ : List UInt8, (l_ == []) = l_.isEmpty from fun l_ => by cases l_ <;> rfl]; done) | (simp [*, errW_none, errW_some] <;> rfl), by repeat (first | (with_reducible first | exact HB.out | apply below_alloc | apply pw_below_drewN | apply below_drew1 | refine below_set ?_ GE636.out) | exact HB.out)⟩

def term_Fact.f (k : Nat) (a0_0 : Int) (a0_1 : Int) (a0_2 : ByteArray) (a0_3 : ByteArray) (l0_4 : List (S23)) : Option (Bool) := (term_CheckAtom.f k a0_0 a0_1 a0_2 a0_3 l0_4).bind fun t659 => (if t659 = 0 then ((term_Variable.f a0_0 a0_1 a0_2).bind fun t660 => (if t660 = true then (some false) else ((slices_ContainsFunc_var.f l0_4).bind fun t661 => (some (!t661))))) else (some false))
set_option maxHeartbeats 8000000 in
set_option maxRecDepth 100000 in
theorem term_Fact.calls (k : Nat) (a0_0 : Int) (a0_1 : Int) (a0_2 : ByteArray) (a0_3 : ByteArray) (A0_4 : Option Addr) (c0_4 : Nat) (l0_4 : List (S23)) (r : Bool) (w : World) (hr0_4 : Kd.C k23 w A0_4 l0_4.length l0_4) (hc0_4 : l0_4.length ≤ c0_4) (hLD2 : Laid2 w) (h : term_Fact.f k a0_0 a0_1 a0_2 a0_3 l0_4 = some r) :
    Calls Tryd.prog 41 #[.agg #[.int .i64 a0_0, .int .i64 a0_1, .string a0_2, .string a0_3, .slice A0_4 l0_4.length c0_4]] w fun e w' => e = .returned (.bool r) ∧ Below w.heap.size w w' := by
  have hu26 := Tryd.underlying26
  have hu23 := Tryd.underlying23
  have HLD2 := Aside0.mk hLD2
  clear hLD2
  have HR0_4 := Aside0.mk hr0_4
  have HC0_4 := Aside0.mk hc0_4
  clear hr0_4 hc0_4
  have HB := Aside0.mk (Below.refl w.heap.size w)
  have H : ((term_CheckAtom.f k a0_0 a0_1 a0_2 a0_3 l0_4).bind fun t659 => (if t659 = 0 then ((term_Variable.f a0_0 a0_1 a0_2).bind fun t660 => (if t660 = true then (some false) else ((slices_ContainsFunc_var.f l0_4).bind fun t661 => (some (!t661))))) else (some false))) = some r := h
  clear h
  replace H := Option.bind_eq_some_iff.mp H
  obtain ⟨t659, A20, H⟩ := H
  replace H : (if t659 = 0 then ((term_Variable.f a0_0 a0_1 a0_2).bind fun t660 => (if t660 = true then (some false) else ((slices_ContainsFunc_var.f l0_4).bind fun t661 => (some (!t661))))) else (some false)) = some r := H
  have A2 := Aside0.mk A20
  clear A20
  by_cases c3 : t659 = 0
  · rw [if_pos c3] at H
    have c3b0 : (t659 == 0) = true := beq_iff_eq.mpr c3
    have c3b1 : (t659 != 0) = false := bne_eq_false_iff_eq.mpr c3
    clear c3
    replace H := Option.bind_eq_some_iff.mp H
    obtain ⟨t660, A40, H⟩ := H
    replace H : (if t660 = true then (some false) else ((slices_ContainsFunc_var.f l0_4).bind fun t661 => (some (!t661)))) = some r := H
    have A4 := Aside0.mk A40
    clear A40
    by_cases c5 : t660 = true
    · subst c5
      have H1 : (some false) = some r := by rw [if_pos rfl] at H; exact H
      clear H
      have H := H1
      clear H1
      obtain rfl := Option.some.inj H
      go_enter Tryd.func41, Tryd.ntmps41
      go_wp2_with (first | ((with_reducible refine gate_dst (N := 1) rfl ?_); refine box_event ?hg (N := 1) ?hd (cs := #[.int .i64 a0_0, .int .i64 a0_1, .string a0_2, .string a0_3, .slice A0_4 l0_4.length c0_4]) (t := 26) ?hr ?_; (case hd => rfl); (case hg => rfl); (case hr => first | (go_simp; done) | (go_simp; rfl)); intro gb658 hg w6 hbox hb; have n0_ := Aside0.mk (below_step (by repeat (first | (with_reducible first | exact HB.out | apply below_alloc | apply pw_below_drewN | apply below_drew1) | exact HB.out)) hb); have n1_ := Aside0.mk (hbox); have n2_ := Aside0.mk ((by rw [hg]; exact (below_size (by repeat (first | (with_reducible first | exact HB.out | apply below_alloc | apply pw_below_drewN | apply below_drew1) | exact HB.out))) : w.heap.size ≤ gb658)); have n3_ := Aside0.mk ((by rw [hg]; exact (below_size (by repeat (first | (with_reducible first | exact HB.out | apply below_alloc | apply pw_below_drewN | apply below_drew1) | exact HB.out))) : w.heap.size ≤ gb658)); clear HB; have HB := n0_; have BK658 := n1_; have GW658 := n2_; have GE658 := n3_; clear n0_ n1_ n2_ n3_; clear hb hbox hg; have hcz7_0 : w6.cell? ⟨gb658, 0, none⟩ = some (.int .i64 a0_0) := (blk_cell BK658.out 0).trans rfl; have hcz7_1 : w6.cell? ⟨gb658, 1, none⟩ = some (.int .i64 a0_1) := (blk_cell BK658.out 1).trans rfl; have hcz7_2 : w6.cell? ⟨gb658, 2, none⟩ = some (.string a0_2) := (blk_cell BK658.out 2).trans rfl; have hcz7_3 : w6.cell? ⟨gb658, 3, none⟩ = some (.string a0_3) := (blk_cell BK658.out 3).trans rfl; have hcz7_4 : w6.cell? ⟨gb658, 4, none⟩ = some (.slice A0_4 l0_4.length c0_4) := (blk_cell BK658.out 4).trans rfl; have hfz7_0 := blk_frozen BK658.out 0; have hfz7_1 := blk_frozen BK658.out 1; have hfz7_2 := blk_frozen BK658.out 2; have hfz7_3 := blk_frozen BK658.out 3; have hfz7_4 := blk_frozen BK658.out 4) | ((with_reducible refine gate_callee (f := 39) rfl ?_); refine goesL_ (some 4) rfl rfl Tryd.func39 (by kernel_rfl) rfl #[.agg #[.int .i64 a0_0, .int .i64 a0_1, .string a0_2, .string a0_3, .slice A0_4 l0_4.length c0_4]] rfl (by (try simp only [List.map_toArray, List.map_cons, List.map_nil]); first | done | rfl | (simp only [List.length_drop, List.length_take]; rfl)) ?_; (with_reducible refine (term_CheckAtom.calls k a0_0 a0_1 a0_2 a0_3 _ _ l0_4 t659 _ ?side1 ?side2 ?side3 A2.out).mono ?_); (case side1 => repeat (first | exact (Kd.C_below HR0_4.out HB.out) | (with_reducible refine Kd.C_alloc ?_ _) | (with_reducible refine Kd.C_drewN ?_ _) | (with_reducible refine Kd.C_drew ?_))); (case side2 => exact HC0_4.out); (case side3 => exact Laid2.up HLD2.out (by repeat (first | (with_reducible first | exact HB.out | apply below_alloc | apply pw_below_drewN | apply below_drew1 | refine below_set ?_ GE658.out) | exact HB.out))); rintro e w8 ⟨rfl, hb⟩; refine ⟨_, rfl, ?_⟩; have n0_ := Aside0.mk (blk_below (g := gb658) (o := .cells #[.int .i64 a0_0, .int .i64 a0_1, .string a0_2, .string a0_3, .slice A0_4 l0_4.length c0_4] 26 (0, 0)) (by (with_reducible repeat (first | refine blk_drewN ?_ _ | refine blk_drew ?_ | refine blk_alloc ?_ _)); exact BK658.out) hb); have n1_ := Aside0.mk (below_step (by repeat (first | (with_reducible first | exact HB.out | apply below_alloc | apply pw_below_drewN | apply below_drew1 | refine below_set ?_ GE658.out) | exact HB.out)) hb); clear BK658; clear HB; have BK658 := n0_; have HB := n1_; clear n0_ n1_; (try clear hb); (try clear hb2); (try clear hk); (try clear hi); have hcz9_0 : w8.cell? ⟨gb658, 0, none⟩ = some (.int .i64 a0_0) := (blk_cell BK658.out 0).trans rfl; have hcz9_1 : w8.cell? ⟨gb658, 1, none⟩ = some (.int .i64 a0_1) := (blk_cell BK658.out 1).trans rfl; have hcz9_2 : w8.cell? ⟨gb658, 2, none⟩ = some (.string a0_2) := (blk_cell BK658.out 2).trans rfl; have hcz9_3 : w8.cell? ⟨gb658, 3, none⟩ = some (.string a0_3) := (blk_cell BK658.out 3).trans rfl; have hcz9_4 : w8.cell? ⟨gb658, 4, none⟩ = some (.slice A0_4 l0_4.length c0_4) := (blk_cell BK658.out 4).trans rfl; have hfz9_0 := blk_frozen BK658.out 0; have hfz9_1 := blk_frozen BK658.out 1; have hfz9_2 := blk_frozen BK658.out 2; have hfz9_3 := blk_frozen BK658.out 3; have hfz9_4 := blk_frozen BK658.out 4) | (go_at_call 27; (with_reducible refine (term_Variable.calls a0_0 a0_1 a0_2 true _ A4.out).mono ?_); rintro e w10 ⟨rfl, hb⟩; have n0_ := Aside0.mk (blk_below (g := gb658) (o := .cells #[.int .i64 a0_0, .int .i64 a0_1, .string a0_2, .string a0_3, .slice A0_4 l0_4.length c0_4] 26 (0, 0)) (by (with_reducible repeat (first | refine blk_drewN ?_ _ | refine blk_drew ?_ | refine blk_alloc ?_ _)); exact BK658.out) hb); have n1_ := Aside0.mk (below_step (by repeat (first | (with_reducible first | exact HB.out | apply below_alloc | apply pw_below_drewN | apply below_drew1 | refine below_set ?_ GE658.out) | exact HB.out)) hb); clear BK658; clear HB; have BK658 := n0_; have HB := n1_; clear n0_ n1_; (try clear hb); (try clear hb2); (try clear hk); (try clear hi)))
      go_ret
      exact ⟨by first | rfl | (simp [errW_none, errW_some] <;> rfl) | (simp [errW_none, errW_some, bne, show ∀ l_ : List UInt8, (l_ == []) = l_.isEmpty from fun l_ => by cases l_ <;> rfl]; done) | (simp [*, errW_none, errW_some] <;> rfl), by repeat (first | (with_reducible first | exact HB.out | apply below_alloc | apply pw_below_drewN | apply below_drew1 | refine below_set ?_ GE658.out) | exact HB.out)⟩
    · replace c5 := Bool.eq_false_iff.mpr c5
      subst c5
      have H1 : ((slices_ContainsFunc_var.f l0_4).bind fun t661 => (some (!t661))) = some r := by rw [if_neg (show ¬ (false = true) by decide)] at H; exact H
      clear H
      have H := H1
      clear H1
      replace H := Option.bind_eq_some_iff.mp H
      obtain ⟨t661, A110, H⟩ := H
      replace H : (some (!t661)) = some r := H
      have A11 := Aside0.mk A110
      clear A110
      obtain rfl := Option.some.inj H
      go_enter Tryd.func41, Tryd.ntmps41
      go_wp2_with (first | ((with_reducible refine gate_dst (N := 1) rfl ?_); refine box_event ?hg (N := 1) ?hd (cs := #[.int .i64 a0_0, .int .i64 a0_1, .string a0_2, .string a0_3, .slice A0_4 l0_4.length c0_4]) (t := 26) ?hr ?_; (case hd => rfl); (case hg => rfl); (case hr => first | (go_simp; done) | (go_simp; rfl)); intro gb658 hg w12 hbox hb; have n0_ := Aside0.mk (below_step (by repeat (first | (with_reducible first | exact HB.out | apply below_alloc | apply pw_below_drewN | apply below_drew1) | exact HB.out)) hb); have n1_ := Aside0.mk (hbox); have n2_ := Aside0.mk ((by rw [hg]; exact (below_size (by repeat (first | (with_reducible first | exact HB.out | apply below_alloc | apply pw_below_drewN | apply below_drew1) | exact HB.out))) : w.heap.size ≤ gb658)); have n3_ := Aside0.mk ((by rw [hg]; exact (below_size (by repeat (first | (with_reducible first | exact HB.out | apply below_alloc | apply pw_below_drewN | apply below_drew1) | exact HB.out))) : w.heap.size ≤ gb658)); clear HB; have HB := n0_; have BK658 := n1_; have GW658 := n2_; have GE658 := n3_; clear n0_ n1_ n2_ n3_; clear hb hbox hg; have hcz13_0 : w12.cell? ⟨gb658, 0, none⟩ = some (.int .i64 a0_0) := (blk_cell BK658.out 0).trans rfl; have hcz13_1 : w12.cell? ⟨gb658, 1, none⟩ = some (.int .i64 a0_1) := (blk_cell BK658.out 1).trans rfl; have hcz13_2 : w12.cell? ⟨gb658, 2, none⟩ = some (.string a0_2) := (blk_cell BK658.out 2).trans rfl; have hcz13_3 : w12.cell? ⟨gb658, 3, none⟩ = some (.string a0_3) := (blk_cell BK658.out 3).trans rfl; have hcz13_4 : w12.cell? ⟨gb658, 4, none⟩ = some (.slice A0_4 l0_4.length c0_4) := (blk_cell BK658.out 4).trans rfl; have hfz13_0 := blk_frozen BK658.out 0; have hfz13_1 := blk_frozen BK658.out 1; have hfz13_2 := blk_frozen BK658.out 2; have hfz13_3 := blk_frozen BK658.out 3; have hfz13_4 := blk_frozen BK658.out 4) | ((with_reducible refine gate_callee (f := 39) rfl ?_); refine goesL_ (some 4) rfl rfl Tryd.func39 (by kernel_rfl) rfl #[.agg #[.int .i64 a0_0, .int .i64 a0_1, .string a0_2, .string a0_3, .slice A0_4 l0_4.length c0_4]] rfl (by (try simp only [List.map_toArray, List.map_cons, List.map_nil]); first | done | rfl | (simp only [List.length_drop, List.length_take]; rfl)) ?_; (with_reducible refine (term_CheckAtom.calls k a0_0 a0_1 a0_2 a0_3 _ _ l0_4 t659 _ ?side1 ?side2 ?side3 A2.out).mono ?_); (case side1 => repeat (first | exact (Kd.C_below HR0_4.out HB.out) | (with_reducible refine Kd.C_alloc ?_ _) | (with_reducible refine Kd.C_drewN ?_ _) | (with_reducible refine Kd.C_drew ?_))); (case side2 => exact HC0_4.out); (case side3 => exact Laid2.up HLD2.out (by repeat (first | (with_reducible first | exact HB.out | apply below_alloc | apply pw_below_drewN | apply below_drew1 | refine below_set ?_ GE658.out) | exact HB.out))); rintro e w14 ⟨rfl, hb⟩; refine ⟨_, rfl, ?_⟩; have n0_ := Aside0.mk (blk_below (g := gb658) (o := .cells #[.int .i64 a0_0, .int .i64 a0_1, .string a0_2, .string a0_3, .slice A0_4 l0_4.length c0_4] 26 (0, 0)) (by (with_reducible repeat (first | refine blk_drewN ?_ _ | refine blk_drew ?_ | refine blk_alloc ?_ _)); exact BK658.out) hb); have n1_ := Aside0.mk (below_step (by repeat (first | (with_reducible first | exact HB.out | apply below_alloc | apply pw_below_drewN | apply below_drew1 | refine below_set ?_ GE658.out) | exact HB.out)) hb); clear BK658; clear HB; have BK658 := n0_; have HB := n1_; clear n0_ n1_; (try clear hb); (try clear hb2); (try clear hk); (try clear hi); have hcz15_0 : w14.cell? ⟨gb658, 0, none⟩ = some (.int .i64 a0_0) := (blk_cell BK658.out 0).trans rfl; have hcz15_1 : w14.cell? ⟨gb658, 1, none⟩ = some (.int .i64 a0_1) := (blk_cell BK658.out 1).trans rfl; have hcz15_2 : w14.cell? ⟨gb658, 2, none⟩ = some (.string a0_2) := (blk_cell BK658.out 2).trans rfl; have hcz15_3 : w14.cell? ⟨gb658, 3, none⟩ = some (.string a0_3) := (blk_cell BK658.out 3).trans rfl; have hcz15_4 : w14.cell? ⟨gb658, 4, none⟩ = some (.slice A0_4 l0_4.length c0_4) := (blk_cell BK658.out 4).trans rfl; have hfz15_0 := blk_frozen BK658.out 0; have hfz15_1 := blk_frozen BK658.out 1; have hfz15_2 := blk_frozen BK658.out 2; have hfz15_3 := blk_frozen BK658.out 3; have hfz15_4 := blk_frozen BK658.out 4) | (go_at_call 27; (with_reducible refine (term_Variable.calls a0_0 a0_1 a0_2 false _ A4.out).mono ?_); rintro e w16 ⟨rfl, hb⟩; have n0_ := Aside0.mk (blk_below (g := gb658) (o := .cells #[.int .i64 a0_0, .int .i64 a0_1, .string a0_2, .string a0_3, .slice A0_4 l0_4.length c0_4] 26 (0, 0)) (by (with_reducible repeat (first | refine blk_drewN ?_ _ | refine blk_drew ?_ | refine blk_alloc ?_ _)); exact BK658.out) hb); have n1_ := Aside0.mk (below_step (by repeat (first | (with_reducible first | exact HB.out | apply below_alloc | apply pw_below_drewN | apply below_drew1 | refine below_set ?_ GE658.out) | exact HB.out)) hb); clear BK658; clear HB; have BK658 := n0_; have HB := n1_; clear n0_ n1_; (try clear hb); (try clear hb2); (try clear hk); (try clear hi); have hcz17_0 : w16.cell? ⟨gb658, 0, none⟩ = some (.int .i64 a0_0) := (blk_cell BK658.out 0).trans rfl; have hcz17_1 : w16.cell? ⟨gb658, 1, none⟩ = some (.int .i64 a0_1) := (blk_cell BK658.out 1).trans rfl; have hcz17_2 : w16.cell? ⟨gb658, 2, none⟩ = some (.string a0_2) := (blk_cell BK658.out 2).trans rfl; have hcz17_3 : w16.cell? ⟨gb658, 3, none⟩ = some (.string a0_3) := (blk_cell BK658.out 3).trans rfl; have hcz17_4 : w16.cell? ⟨gb658, 4, none⟩ = some (.slice A0_4 l0_4.length c0_4) := (blk_cell BK658.out 4).trans rfl; have hfz17_0 := blk_frozen BK658.out 0; have hfz17_1 := blk_frozen BK658.out 1; have hfz17_2 := blk_frozen BK658.out 2; have hfz17_3 := blk_frozen BK658.out 3; have hfz17_4 := blk_frozen BK658.out 4) | (go_at_call 70; (with_reducible refine (slices_ContainsFunc_var.calls _ _ l0_4 t661 _ ?side1 ?side2 A11.out).mono ?_); (case side1 => repeat (first | exact (Kd.C_below HR0_4.out HB.out) | (with_reducible refine Kd.C_alloc ?_ _) | (with_reducible refine Kd.C_drewN ?_ _) | (with_reducible refine Kd.C_drew ?_))); (case side2 => exact HC0_4.out); rintro e w18 ⟨rfl, hb⟩; have n0_ := Aside0.mk (blk_below (g := gb658) (o := .cells #[.int .i64 a0_0, .int .i64 a0_1, .string a0_2, .string a0_3, .slice A0_4 l0_4.length c0_4] 26 (0, 0)) (by (with_reducible repeat (first | refine blk_drewN ?_ _ | refine blk_drew ?_ | refine blk_alloc ?_ _)); exact BK658.out) hb); have n1_ := Aside0.mk (below_step (by repeat (first | (with_reducible first | exact HB.out | apply below_alloc | apply pw_below_drewN | apply below_drew1 | refine below_set ?_ GE658.out) | exact HB.out)) hb); clear BK658; clear HB; have BK658 := n0_; have HB := n1_; clear n0_ n1_; (try clear hb); (try clear hb2); (try clear hk); (try clear hi)))
      go_ret
      exact ⟨by first | rfl | (simp [errW_none, errW_some] <;> rfl) | (simp [errW_none, errW_some, bne, show ∀ l_ : List UInt8, (l_ == []) = l_.isEmpty from fun l_ => by cases l_ <;> rfl]; done) | (simp [*, errW_none, errW_some] <;> rfl), by repeat (first | (with_reducible first | exact HB.out | apply below_alloc | apply pw_below_drewN | apply below_drew1 | refine below_set ?_ GE658.out) | exact HB.out)⟩
  · rw [if_neg c3] at H
    have c3b0 : (t659 == 0) = false := beq_eq_false_iff_ne.mpr c3
    have c3b1 : (t659 != 0) = true := bne_iff_ne.mpr c3
    obtain rfl := Option.some.inj H
    go_enter Tryd.func41, Tryd.ntmps41
    go_wp2_with (first | ((with_reducible refine gate_dst (N := 1) rfl ?_); refine box_event ?hg (N := 1) ?hd (cs := #[.int .i64 a0_0, .int .i64 a0_1, .string a0_2, .string a0_3, .slice A0_4 l0_4.length c0_4]) (t := 26) ?hr ?_; (case hd => rfl); (case hg => rfl); (case hr => first | (go_simp; done) | (go_simp; rfl)); intro gb658 hg w19 hbox hb; have n0_ := Aside0.mk (below_step (by repeat (first | (with_reducible first | exact HB.out | apply below_alloc | apply pw_below_drewN | apply below_drew1) | exact HB.out)) hb); have n1_ := Aside0.mk (hbox); have n2_ := Aside0.mk ((by rw [hg]; exact (below_size (by repeat (first | (with_reducible first | exact HB.out | apply below_alloc | apply pw_below_drewN | apply below_drew1) | exact HB.out))) : w.heap.size ≤ gb658)); have n3_ := Aside0.mk ((by rw [hg]; exact (below_size (by repeat (first | (with_reducible first | exact HB.out | apply below_alloc | apply pw_below_drewN | apply below_drew1) | exact HB.out))) : w.heap.size ≤ gb658)); clear HB; have HB := n0_; have BK658 := n1_; have GW658 := n2_; have GE658 := n3_; clear n0_ n1_ n2_ n3_; clear hb hbox hg; have hcz20_0 : w19.cell? ⟨gb658, 0, none⟩ = some (.int .i64 a0_0) := (blk_cell BK658.out 0).trans rfl; have hcz20_1 : w19.cell? ⟨gb658, 1, none⟩ = some (.int .i64 a0_1) := (blk_cell BK658.out 1).trans rfl; have hcz20_2 : w19.cell? ⟨gb658, 2, none⟩ = some (.string a0_2) := (blk_cell BK658.out 2).trans rfl; have hcz20_3 : w19.cell? ⟨gb658, 3, none⟩ = some (.string a0_3) := (blk_cell BK658.out 3).trans rfl; have hcz20_4 : w19.cell? ⟨gb658, 4, none⟩ = some (.slice A0_4 l0_4.length c0_4) := (blk_cell BK658.out 4).trans rfl; have hfz20_0 := blk_frozen BK658.out 0; have hfz20_1 := blk_frozen BK658.out 1; have hfz20_2 := blk_frozen BK658.out 2; have hfz20_3 := blk_frozen BK658.out 3; have hfz20_4 := blk_frozen BK658.out 4) | ((with_reducible refine gate_callee (f := 39) rfl ?_); refine goesL_ (some 4) rfl rfl Tryd.func39 (by kernel_rfl) rfl #[.agg #[.int .i64 a0_0, .int .i64 a0_1, .string a0_2, .string a0_3, .slice A0_4 l0_4.length c0_4]] rfl (by (try simp only [List.map_toArray, List.map_cons, List.map_nil]); first | done | rfl | (simp only [List.length_drop, List.length_take]; rfl)) ?_; (with_reducible refine (term_CheckAtom.calls k a0_0 a0_1 a0_2 a0_3 _ _ l0_4 t659 _ ?side1 ?side2 ?side3 A2.out).mono ?_); (case side1 => repeat (first | exact (Kd.C_below HR0_4.out HB.out) | (with_reducible refine Kd.C_alloc ?_ _) | (with_reducible refine Kd.C_drewN ?_ _) | (with_reducible refine Kd.C_drew ?_))); (case side2 => exact HC0_4.out); (case side3 => exact Laid2.up HLD2.out (by repeat (first | (with_reducible first | exact HB.out | apply below_alloc | apply pw_below_drewN | apply below_drew1 | refine below_set ?_ GE658.out) | exact HB.out))); rintro e w21 ⟨rfl, hb⟩; refine ⟨_, rfl, ?_⟩; have n0_ := Aside0.mk (blk_below (g := gb658) (o := .cells #[.int .i64 a0_0, .int .i64 a0_1, .string a0_2, .string a0_3, .slice A0_4 l0_4.length c0_4] 26 (0, 0)) (by (with_reducible repeat (first | refine blk_drewN ?_ _ | refine blk_drew ?_ | refine blk_alloc ?_ _)); exact BK658.out) hb); have n1_ := Aside0.mk (below_step (by repeat (first | (with_reducible first | exact HB.out | apply below_alloc | apply pw_below_drewN | apply below_drew1 | refine below_set ?_ GE658.out) | exact HB.out)) hb); clear BK658; clear HB; have BK658 := n0_; have HB := n1_; clear n0_ n1_; (try clear hb); (try clear hb2); (try clear hk); (try clear hi)))
    go_ret
    exact ⟨by first | rfl | (simp [errW_none, errW_some] <;> rfl) | (simp [errW_none, errW_some, bne, show ∀ l_ : List UInt8, (l_ == []) = l_.isEmpty from fun l_ => by cases l_ <;> rfl]; done) | (simp [*, errW_none, errW_some] <;> rfl), by repeat (first | (with_reducible first | exact HB.out | apply below_alloc | apply pw_below_drewN | apply below_drew1 | refine below_set ?_ GE658.out) | exact HB.out)⟩

-- NOT PRINTED: function 77 (api_Term_77)

end Go.Proofs.YtnomgmlfagiffaaDoor.T
