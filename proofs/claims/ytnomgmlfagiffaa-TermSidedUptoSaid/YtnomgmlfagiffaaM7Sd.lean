/- T9; PureB; PureM; PureUs: texts of this claim, laid together. -/
import Derived.Test.YtnomgmlfagiffaaM0Sd
import Derived.Test.YtnomgmlfagiffaaM3Sd
import Derived.Test.YtnomgmlfagiffaaM2Sd
import Derived.Test.YtnomgmlfagiffaaM6Sd
import Derived.Test.YtnomgmlfagiffaaM4Sd
import Derived.Test.YtnomgmlfagiffaaM5Sd
-- By a program of this session (wip/tools/myprint.py), out of the translation.
namespace Go.Proofs.Ytnomgmlfagiffaa.T
open Go.RowKit Go.Proofs.YtnomgmlfagiffaaW.PrintWords Go.Proofs.YtnomgmlfagiffaaW.PrintLast Go.Proofs.YtnomgmlfagiffaaW.PrintMore
attribute [local go_sem] max2_int min2_int max_two min_two max_three min_three max_four min_four   -- for this text's walks alone
set_option linter.unusedVariables false
set_option linter.unusedSimpArgs false

noncomputable def hearsaylaw02_TermSided.j0 : Nat → List (S46) → Bool → List (S46) → Bool → Bool → Option (Bool)
  | 0, _, _, _, _, _ => none
  | k + 1, x7, x8, x9, x10, x45 => if x45 = true then (if x10 = true then (some false) else ((hearsaylaw02_first.f).bind fun t230 => (some t230))) else (if (x8 == x10) = true then ((hearsaylaw02_bindings.f k x7 x9).bind fun t231 => (if t231 = true then ((hearsaylaw02_first.f).bind fun t232 => (some t232)) else (some false))) else (some false))
noncomputable def hearsaylaw02_TermSided.f (k : Nat) (a0_0 : Int) (a0_1 : Int) (a0_2 : ByteArray) (a0_3 : ByteArray) (l0_4 : List (S23)) (a1_0 : Int) (a1_1 : Int) (a1_2 : ByteArray) (a1_3 : ByteArray) (l1_4 : List (S23)) : Option (Bool) := (term_Vars.f a1_0 a1_1 a1_2 a1_3 l1_4).bind fun t212 => (if (t212.length : Int) = 0 then ((term_Match.f a0_0 a0_1 a0_2 a0_3 l0_4 a1_0 a1_1 a1_2 a1_3 l1_4 ([] : List (S46))).bind fun bt220 => ((term_Unify.f a0_0 a0_1 a0_2 a0_3 l0_4 a1_0 a1_1 a1_2 a1_3 l1_4).bind fun bt224 => ((term_Variable.f a0_0 a0_1 a0_2).bind fun t228 => (if t228 = true then ((term_Principal.f a1_0 a1_1 a1_2).bind fun t229 => (hearsaylaw02_TermSided.j0 k bt220.1 bt220.2 bt224.1 bt224.2 (!t229))) else (hearsaylaw02_TermSided.j0 k bt220.1 bt220.2 bt224.1 bt224.2 false))))) else ((term_Unify.f a1_0 a1_1 a1_2 a1_3 l1_4 a1_0 a1_1 a1_2 a1_3 l1_4).bind fun bt215 => (if bt215.2 = true then ((hearsaylaw02_first.f).bind fun t219 => (some t219)) else (some false))))
set_option maxHeartbeats 8000000 in
set_option maxRecDepth 100000 in
theorem hearsaylaw02_TermSided.calls (k : Nat) (a0_0 : Int) (a0_1 : Int) (a0_2 : ByteArray) (a0_3 : ByteArray) (A0_4 : Option Addr) (c0_4 : Nat) (l0_4 : List (S23)) (a1_0 : Int) (a1_1 : Int) (a1_2 : ByteArray) (a1_3 : ByteArray) (A1_4 : Option Addr) (c1_4 : Nat) (l1_4 : List (S23)) (r : Bool) (w : World) (hr0_4 : Kd.C k23 w A0_4 l0_4.length l0_4) (hc0_4 : l0_4.length ≤ c0_4) (hr1_4 : Kd.C k23 w A1_4 l1_4.length l1_4) (hc1_4 : l1_4.length ≤ c1_4) (h : hearsaylaw02_TermSided.f k a0_0 a0_1 a0_2 a0_3 l0_4 a1_0 a1_1 a1_2 a1_3 l1_4 = some r) :
    Calls Try.prog 5 #[.agg #[.int .i64 a0_0, .int .i64 a0_1, .string a0_2, .string a0_3, .slice A0_4 l0_4.length c0_4], .agg #[.int .i64 a1_0, .int .i64 a1_1, .string a1_2, .string a1_3, .slice A1_4 l1_4.length c1_4]] w fun e w' => e = .returned (.bool r) ∧ Below w.heap.size w w' := by
  have hu30 := Try.underlying30
  have hu23 := Try.underlying23
  have HR0_4 := Aside0.mk hr0_4
  have HC0_4 := Aside0.mk hc0_4
  clear hr0_4 hc0_4
  have HR1_4 := Aside0.mk hr1_4
  have HC1_4 := Aside0.mk hc1_4
  clear hr1_4 hc1_4
  have HB := Aside0.mk (Below.refl w.heap.size w)
  have H : ((term_Vars.f a1_0 a1_1 a1_2 a1_3 l1_4).bind fun t212 => (if (t212.length : Int) = 0 then ((term_Match.f a0_0 a0_1 a0_2 a0_3 l0_4 a1_0 a1_1 a1_2 a1_3 l1_4 ([] : List (S46))).bind fun bt220 => ((term_Unify.f a0_0 a0_1 a0_2 a0_3 l0_4 a1_0 a1_1 a1_2 a1_3 l1_4).bind fun bt224 => ((term_Variable.f a0_0 a0_1 a0_2).bind fun t228 => (if t228 = true then ((term_Principal.f a1_0 a1_1 a1_2).bind fun t229 => (hearsaylaw02_TermSided.j0 k bt220.1 bt220.2 bt224.1 bt224.2 (!t229))) else (hearsaylaw02_TermSided.j0 k bt220.1 bt220.2 bt224.1 bt224.2 false))))) else ((term_Unify.f a1_0 a1_1 a1_2 a1_3 l1_4 a1_0 a1_1 a1_2 a1_3 l1_4).bind fun bt215 => (if bt215.2 = true then ((hearsaylaw02_first.f).bind fun t219 => (some t219)) else (some false))))) = some r := h
  clear h
  replace H := Option.bind_eq_some_iff.mp H
  obtain ⟨t212, A30, H⟩ := H
  replace H : (if (t212.length : Int) = 0 then ((term_Match.f a0_0 a0_1 a0_2 a0_3 l0_4 a1_0 a1_1 a1_2 a1_3 l1_4 ([] : List (S46))).bind fun bt220 => ((term_Unify.f a0_0 a0_1 a0_2 a0_3 l0_4 a1_0 a1_1 a1_2 a1_3 l1_4).bind fun bt224 => ((term_Variable.f a0_0 a0_1 a0_2).bind fun t228 => (if t228 = true then ((term_Principal.f a1_0 a1_1 a1_2).bind fun t229 => (hearsaylaw02_TermSided.j0 k bt220.1 bt220.2 bt224.1 bt224.2 (!t229))) else (hearsaylaw02_TermSided.j0 k bt220.1 bt220.2 bt224.1 bt224.2 false))))) else ((term_Unify.f a1_0 a1_1 a1_2 a1_3 l1_4 a1_0 a1_1 a1_2 a1_3 l1_4).bind fun bt215 => (if bt215.2 = true then ((hearsaylaw02_first.f).bind fun t219 => (some t219)) else (some false)))) = some r := H
  have A3 := Aside0.mk A30
  clear A30
  by_cases c4 : (t212.length : Int) = 0
  · rw [if_pos c4] at H
    have c4b0 : ((t212.length : Int) == 0) = true := beq_iff_eq.mpr c4
    have c4b1 : ((t212.length : Int) != 0) = false := bne_eq_false_iff_eq.mpr c4
    clear c4
    replace H := Option.bind_eq_some_iff.mp H
    obtain ⟨⟨t220, t223⟩, A50, H⟩ := H
    replace H : ((term_Unify.f a0_0 a0_1 a0_2 a0_3 l0_4 a1_0 a1_1 a1_2 a1_3 l1_4).bind fun bt224 => ((term_Variable.f a0_0 a0_1 a0_2).bind fun t228 => (if t228 = true then ((term_Principal.f a1_0 a1_1 a1_2).bind fun t229 => (hearsaylaw02_TermSided.j0 k t220 t223 bt224.1 bt224.2 (!t229))) else (hearsaylaw02_TermSided.j0 k t220 t223 bt224.1 bt224.2 false)))) = some r := H
    have A5 := Aside0.mk A50
    clear A50
    replace H := Option.bind_eq_some_iff.mp H
    obtain ⟨⟨t224, t227⟩, A60, H⟩ := H
    replace H : ((term_Variable.f a0_0 a0_1 a0_2).bind fun t228 => (if t228 = true then ((term_Principal.f a1_0 a1_1 a1_2).bind fun t229 => (hearsaylaw02_TermSided.j0 k t220 t223 t224 t227 (!t229))) else (hearsaylaw02_TermSided.j0 k t220 t223 t224 t227 false))) = some r := H
    have A6 := Aside0.mk A60
    clear A60
    have HC7 := Aside0.mk H
    clear H
    go_enter Try.func5, Try.ntmps5
    go_upto_region 6 with (first | ((with_reducible refine gate_dst (N := 2) rfl ?_); refine box_event ?hg (N := 2) ?hd (cs := #[.int .i64 a0_0, .int .i64 a0_1, .string a0_2, .string a0_3, .slice A0_4 l0_4.length c0_4]) (t := 30) ?hr ?_; (case hd => rfl); (case hg => rfl); (case hr => first | (go_simp; done) | (go_simp; rfl)); intro gb210 hg w8 hbox hb; have n0_ := Aside0.mk (below_step (by repeat (first | (with_reducible first | exact HB.out | apply below_alloc | apply pw_below_drewN | apply below_drew1) | exact HB.out)) hb); have n1_ := Aside0.mk (hbox); have n2_ := Aside0.mk ((by rw [hg]; exact (below_size (by repeat (first | (with_reducible first | exact HB.out | apply below_alloc | apply pw_below_drewN | apply below_drew1) | exact HB.out))) : w.heap.size ≤ gb210)); have n3_ := Aside0.mk ((by rw [hg]; exact (below_size (by repeat (first | (with_reducible first | exact HB.out | apply below_alloc | apply pw_below_drewN | apply below_drew1) | exact HB.out))) : w.heap.size ≤ gb210)); clear HB; have HB := n0_; have BK210 := n1_; have GW210 := n2_; have GE210 := n3_; clear n0_ n1_ n2_ n3_; clear hb hbox hg) | ((with_reducible refine gate_dst (N := 3) rfl ?_); refine box_event ?hg (N := 3) ?hd (cs := #[.int .i64 a1_0, .int .i64 a1_1, .string a1_2, .string a1_3, .slice A1_4 l1_4.length c1_4]) (t := 30) ?hr ?_; (case hd => rfl); (case hg => rfl); (case hr => first | (go_simp; done) | (go_simp; rfl)); intro gb211 hg w9 hbox hb; have n0_ := Aside0.mk (blk_below (g := gb210) (o := .cells #[.int .i64 a0_0, .int .i64 a0_1, .string a0_2, .string a0_3, .slice A0_4 l0_4.length c0_4] 30 (0, 0)) (by (with_reducible repeat (first | refine blk_drewN ?_ _ | refine blk_drew ?_ | refine blk_alloc ?_ _)); exact BK210.out) hb); have n1_ := Aside0.mk (below_step (by repeat (first | (with_reducible first | exact HB.out | apply below_alloc | apply pw_below_drewN | apply below_drew1 | refine below_set ?_ GE210.out) | exact HB.out)) hb); have n2_ := Aside0.mk (hbox); have n3_ := Aside0.mk ((by rw [hg]; exact (below_size (by repeat (first | (with_reducible first | exact HB.out | apply below_alloc | apply pw_below_drewN | apply below_drew1 | refine below_set ?_ GE210.out) | exact HB.out))) : w.heap.size ≤ gb211)); have n4_ := Aside0.mk ((by rw [hg]; exact (below_size (by repeat (first | (with_reducible first | exact HB.out | apply below_alloc | apply pw_below_drewN | apply below_drew1 | refine below_set ?_ GE210.out) | exact HB.out))) : w.heap.size ≤ gb211)); have n5_ := Aside0.mk ((by rw [hg]; exact Nat.ne_of_lt (blk_lt (g := gb210) (o := .cells #[.int .i64 a0_0, .int .i64 a0_1, .string a0_2, .string a0_3, .slice A0_4 l0_4.length c0_4] 30 (0, 0)) (by (with_reducible repeat (first | refine blk_drewN ?_ _ | refine blk_drew ?_ | refine blk_alloc ?_ _)); exact BK210.out)) : gb210 ≠ gb211)); have n6_ := Aside0.mk ((by rw [hg]; exact Nat.ne_of_gt (blk_lt (g := gb210) (o := .cells #[.int .i64 a0_0, .int .i64 a0_1, .string a0_2, .string a0_3, .slice A0_4 l0_4.length c0_4] 30 (0, 0)) (by (with_reducible repeat (first | refine blk_drewN ?_ _ | refine blk_drew ?_ | refine blk_alloc ?_ _)); exact BK210.out)) : gb211 ≠ gb210)); clear BK210; clear HB; have BK210 := n0_; have HB := n1_; have BK211 := n2_; have GW211 := n3_; have GE211 := n4_; have NB210_211 := n5_; have NB211_210 := n6_; clear n0_ n1_ n2_ n3_ n4_ n5_ n6_; clear hb hbox hg; have hnb10 := NB211_210.out; have hnc10 := NB210_211.out; have hcz11_0 : w9.cell? ⟨gb211, 0, none⟩ = some (.int .i64 a1_0) := (blk_cell BK211.out 0).trans rfl; have hcz11_1 : w9.cell? ⟨gb211, 1, none⟩ = some (.int .i64 a1_1) := (blk_cell BK211.out 1).trans rfl; have hcz11_2 : w9.cell? ⟨gb211, 2, none⟩ = some (.string a1_2) := (blk_cell BK211.out 2).trans rfl; have hcz11_3 : w9.cell? ⟨gb211, 3, none⟩ = some (.string a1_3) := (blk_cell BK211.out 3).trans rfl; have hcz11_4 : w9.cell? ⟨gb211, 4, none⟩ = some (.slice A1_4 l1_4.length c1_4) := (blk_cell BK211.out 4).trans rfl; have hfz11_0 := blk_frozen BK211.out 0; have hfz11_1 := blk_frozen BK211.out 1; have hfz11_2 := blk_frozen BK211.out 2; have hfz11_3 := blk_frozen BK211.out 3; have hfz11_4 := blk_frozen BK211.out 4) | ((with_reducible refine gate_callee (f := 17) rfl ?_); refine goesL_ (some 12) rfl rfl Try.func17 (by kernel_rfl) rfl #[.agg #[.int .i64 a1_0, .int .i64 a1_1, .string a1_2, .string a1_3, .slice A1_4 l1_4.length c1_4]] rfl (by (try simp only [List.map_toArray, List.map_cons, List.map_nil]); first | done | rfl | (simp only [List.length_drop, List.length_take]; rfl)) ?_; (with_reducible refine (term_Vars.calls a1_0 a1_1 a1_2 a1_3 _ _ l1_4 t212 _ ?side1 ?side2 A3.out).mono ?_); (case side1 => repeat (first | exact (Kd.C_below HR1_4.out HB.out) | (with_reducible refine Kd.C_alloc ?_ _) | (with_reducible refine Kd.C_drewN ?_ _) | (with_reducible refine Kd.C_drew ?_))); (case side2 => exact HC1_4.out); rintro e w12 ⟨v213, rfl, ho0, hb⟩; refine ⟨_, rfl, ?_⟩; have n0_ := Aside0.mk (Kd.R_lower ho0 (below_size (by repeat (first | (with_reducible first | exact HB.out | apply below_alloc | apply pw_below_drewN | apply below_drew1 | refine below_set ?_ GE210.out | refine below_set ?_ GE211.out) | exact HB.out)))); have n1_ := Aside0.mk (blk_below (g := gb210) (o := .cells #[.int .i64 a0_0, .int .i64 a0_1, .string a0_2, .string a0_3, .slice A0_4 l0_4.length c0_4] 30 (0, 0)) (by (with_reducible repeat (first | refine blk_drewN ?_ _ | refine blk_drew ?_ | refine blk_alloc ?_ _)); exact BK210.out) hb); have n2_ := Aside0.mk (blk_below (g := gb211) (o := .cells #[.int .i64 a1_0, .int .i64 a1_1, .string a1_2, .string a1_3, .slice A1_4 l1_4.length c1_4] 30 (0, 0)) (by (with_reducible repeat (first | refine blk_drewN ?_ _ | refine blk_drew ?_ | refine blk_alloc ?_ _)); exact BK211.out) hb); have n3_ := Aside0.mk (below_step (by repeat (first | (with_reducible first | exact HB.out | apply below_alloc | apply pw_below_drewN | apply below_drew1 | refine below_set ?_ GE210.out | refine below_set ?_ GE211.out) | exact HB.out)) hb); clear BK210; clear BK211; clear HB; have HO214 := n0_; have BK210 := n1_; have BK211 := n2_; have HB := n3_; clear n0_ n1_ n2_ n3_; (try clear hb); (try clear hb2); (try clear hk); (try clear hi); (try clear ho0); obtain ⟨Ao13, co13, eo13⟩ := Kd.R_slice HO214.out; subst eo13; have hcz14_0 : w12.cell? ⟨gb210, 0, none⟩ = some (.int .i64 a0_0) := (blk_cell BK210.out 0).trans rfl; have hcz14_1 : w12.cell? ⟨gb210, 1, none⟩ = some (.int .i64 a0_1) := (blk_cell BK210.out 1).trans rfl; have hcz14_2 : w12.cell? ⟨gb210, 2, none⟩ = some (.string a0_2) := (blk_cell BK210.out 2).trans rfl; have hcz14_3 : w12.cell? ⟨gb210, 3, none⟩ = some (.string a0_3) := (blk_cell BK210.out 3).trans rfl; have hcz14_4 : w12.cell? ⟨gb210, 4, none⟩ = some (.slice A0_4 l0_4.length c0_4) := (blk_cell BK210.out 4).trans rfl; have hfz14_0 := blk_frozen BK210.out 0; have hfz14_1 := blk_frozen BK210.out 1; have hfz14_2 := blk_frozen BK210.out 2; have hfz14_3 := blk_frozen BK210.out 3; have hfz14_4 := blk_frozen BK210.out 4; have hcz15_0 : w12.cell? ⟨gb211, 0, none⟩ = some (.int .i64 a1_0) := (blk_cell BK211.out 0).trans rfl; have hcz15_1 : w12.cell? ⟨gb211, 1, none⟩ = some (.int .i64 a1_1) := (blk_cell BK211.out 1).trans rfl; have hcz15_2 : w12.cell? ⟨gb211, 2, none⟩ = some (.string a1_2) := (blk_cell BK211.out 2).trans rfl; have hcz15_3 : w12.cell? ⟨gb211, 3, none⟩ = some (.string a1_3) := (blk_cell BK211.out 3).trans rfl; have hcz15_4 : w12.cell? ⟨gb211, 4, none⟩ = some (.slice A1_4 l1_4.length c1_4) := (blk_cell BK211.out 4).trans rfl; have hfz15_0 := blk_frozen BK211.out 0; have hfz15_1 := blk_frozen BK211.out 1; have hfz15_2 := blk_frozen BK211.out 2; have hfz15_3 := blk_frozen BK211.out 3; have hfz15_4 := blk_frozen BK211.out 4) | ((with_reducible refine gate_callee (f := 19) rfl ?_); refine goesL_ (some 28) rfl rfl Try.func19 (by kernel_rfl) rfl #[.agg #[.int .i64 a0_0, .int .i64 a0_1, .string a0_2, .string a0_3, .slice A0_4 l0_4.length c0_4], .agg #[.int .i64 a1_0, .int .i64 a1_1, .string a1_2, .string a1_3, .slice A1_4 l1_4.length c1_4], .slice none 0 0] rfl (by (try simp only [List.map_toArray, List.map_cons, List.map_nil]); first | done | rfl | (simp only [List.length_drop, List.length_take]; rfl)) ?_; (refine (term_Match.calls a0_0 a0_1 a0_2 a0_3 _ _ l0_4 a1_0 a1_1 a1_2 a1_3 _ _ l1_4 _ _ ([] : List (S46)) t220 t223 _ ?side1 ?side2 ?side3 ?side4 ?side5 ?side6 A5.out).mono ?_); (case side1 => repeat (first | exact (Kd.C_below HR0_4.out HB.out) | (with_reducible refine Kd.C_alloc ?_ _) | (with_reducible refine Kd.C_drewN ?_ _) | (with_reducible refine Kd.C_drew ?_))); (case side2 => exact HC0_4.out); (case side3 => repeat (first | exact (Kd.C_below HR1_4.out HB.out) | (with_reducible refine Kd.C_alloc ?_ _) | (with_reducible refine Kd.C_drewN ?_ _) | (with_reducible refine Kd.C_drew ?_))); (case side4 => exact HC1_4.out); (case side5 => exact Kd.C_nil _ _); (case side6 => exact Nat.le_refl _); rintro e w16 ⟨v221, rfl, ho0, hb⟩; refine ⟨_, rfl, ?_⟩; have n0_ := Aside0.mk (Kd.R_below (by (with_reducible repeat (first | apply Kd.R_alloc | apply Kd.R_drewN | apply Kd.R_drew)); exact HO214.out) hb); have n1_ := Aside0.mk (Kd.R_lower ho0 (below_size (by repeat (first | (with_reducible first | exact HB.out | apply below_alloc | apply pw_below_drewN | apply below_drew1 | refine below_set ?_ GE210.out | refine below_set ?_ GE211.out) | exact HB.out)))); have n2_ := Aside0.mk (blk_below (g := gb210) (o := .cells #[.int .i64 a0_0, .int .i64 a0_1, .string a0_2, .string a0_3, .slice A0_4 l0_4.length c0_4] 30 (0, 0)) (by (with_reducible repeat (first | refine blk_drewN ?_ _ | refine blk_drew ?_ | refine blk_alloc ?_ _)); exact BK210.out) hb); have n3_ := Aside0.mk (blk_below (g := gb211) (o := .cells #[.int .i64 a1_0, .int .i64 a1_1, .string a1_2, .string a1_3, .slice A1_4 l1_4.length c1_4] 30 (0, 0)) (by (with_reducible repeat (first | refine blk_drewN ?_ _ | refine blk_drew ?_ | refine blk_alloc ?_ _)); exact BK211.out) hb); have n4_ := Aside0.mk (below_step (by repeat (first | (with_reducible first | exact HB.out | apply below_alloc | apply pw_below_drewN | apply below_drew1 | refine below_set ?_ GE210.out | refine below_set ?_ GE211.out) | exact HB.out)) hb); clear HO214; clear BK210; clear BK211; clear HB; have HO214 := n0_; have HO222 := n1_; have BK210 := n2_; have BK211 := n3_; have HB := n4_; clear n0_ n1_ n2_ n3_ n4_; (try clear hb); (try clear hb2); (try clear hk); (try clear hi); (try clear ho0); have hcz17_0 : w16.cell? ⟨gb210, 0, none⟩ = some (.int .i64 a0_0) := (blk_cell BK210.out 0).trans rfl; have hcz17_1 : w16.cell? ⟨gb210, 1, none⟩ = some (.int .i64 a0_1) := (blk_cell BK210.out 1).trans rfl; have hcz17_2 : w16.cell? ⟨gb210, 2, none⟩ = some (.string a0_2) := (blk_cell BK210.out 2).trans rfl; have hcz17_3 : w16.cell? ⟨gb210, 3, none⟩ = some (.string a0_3) := (blk_cell BK210.out 3).trans rfl; have hcz17_4 : w16.cell? ⟨gb210, 4, none⟩ = some (.slice A0_4 l0_4.length c0_4) := (blk_cell BK210.out 4).trans rfl; have hfz17_0 := blk_frozen BK210.out 0; have hfz17_1 := blk_frozen BK210.out 1; have hfz17_2 := blk_frozen BK210.out 2; have hfz17_3 := blk_frozen BK210.out 3; have hfz17_4 := blk_frozen BK210.out 4; have hcz18_0 : w16.cell? ⟨gb211, 0, none⟩ = some (.int .i64 a1_0) := (blk_cell BK211.out 0).trans rfl; have hcz18_1 : w16.cell? ⟨gb211, 1, none⟩ = some (.int .i64 a1_1) := (blk_cell BK211.out 1).trans rfl; have hcz18_2 : w16.cell? ⟨gb211, 2, none⟩ = some (.string a1_2) := (blk_cell BK211.out 2).trans rfl; have hcz18_3 : w16.cell? ⟨gb211, 3, none⟩ = some (.string a1_3) := (blk_cell BK211.out 3).trans rfl; have hcz18_4 : w16.cell? ⟨gb211, 4, none⟩ = some (.slice A1_4 l1_4.length c1_4) := (blk_cell BK211.out 4).trans rfl; have hfz18_0 := blk_frozen BK211.out 0; have hfz18_1 := blk_frozen BK211.out 1; have hfz18_2 := blk_frozen BK211.out 2; have hfz18_3 := blk_frozen BK211.out 3; have hfz18_4 := blk_frozen BK211.out 4) | ((with_reducible refine gate_callee (f := 18) rfl ?_); refine goesL_ (some 34) rfl rfl Try.func18 (by kernel_rfl) rfl #[.agg #[.int .i64 a0_0, .int .i64 a0_1, .string a0_2, .string a0_3, .slice A0_4 l0_4.length c0_4], .agg #[.int .i64 a1_0, .int .i64 a1_1, .string a1_2, .string a1_3, .slice A1_4 l1_4.length c1_4]] rfl (by (try simp only [List.map_toArray, List.map_cons, List.map_nil]); first | done | rfl | (simp only [List.length_drop, List.length_take]; rfl)) ?_; (with_reducible refine (term_Unify.calls a0_0 a0_1 a0_2 a0_3 _ _ l0_4 a1_0 a1_1 a1_2 a1_3 _ _ l1_4 t224 t227 _ ?side1 ?side2 ?side3 ?side4 A6.out).mono ?_); (case side1 => repeat (first | exact (Kd.C_below HR0_4.out HB.out) | (with_reducible refine Kd.C_alloc ?_ _) | (with_reducible refine Kd.C_drewN ?_ _) | (with_reducible refine Kd.C_drew ?_))); (case side2 => exact HC0_4.out); (case side3 => repeat (first | exact (Kd.C_below HR1_4.out HB.out) | (with_reducible refine Kd.C_alloc ?_ _) | (with_reducible refine Kd.C_drewN ?_ _) | (with_reducible refine Kd.C_drew ?_))); (case side4 => exact HC1_4.out); rintro e w19 ⟨v225, rfl, ho0, hb⟩; refine ⟨_, rfl, ?_⟩; have n0_ := Aside0.mk (Kd.R_below (by (with_reducible repeat (first | apply Kd.R_alloc | apply Kd.R_drewN | apply Kd.R_drew)); exact HO214.out) hb); have n1_ := Aside0.mk (Kd.R_elder' (by (with_reducible repeat (first | apply Kd.R_alloc | apply Kd.R_drewN | apply Kd.R_drew)); exact HO222.out) (Kd.R_base ho0) hb); have n2_ := Aside0.mk (Kd.R_lower (Kd.R_new' ho0 (Kd.R_lt (by (with_reducible repeat (first | apply Kd.R_alloc | apply Kd.R_drewN | apply Kd.R_drew)); exact HO222.out))) (below_size (by repeat (first | (with_reducible first | exact HB.out | apply below_alloc | apply pw_below_drewN | apply below_drew1 | refine below_set ?_ GE210.out | refine below_set ?_ GE211.out) | exact HB.out)))); have n3_ := Aside0.mk (blk_below (g := gb210) (o := .cells #[.int .i64 a0_0, .int .i64 a0_1, .string a0_2, .string a0_3, .slice A0_4 l0_4.length c0_4] 30 (0, 0)) (by (with_reducible repeat (first | refine blk_drewN ?_ _ | refine blk_drew ?_ | refine blk_alloc ?_ _)); exact BK210.out) hb); have n4_ := Aside0.mk (blk_below (g := gb211) (o := .cells #[.int .i64 a1_0, .int .i64 a1_1, .string a1_2, .string a1_3, .slice A1_4 l1_4.length c1_4] 30 (0, 0)) (by (with_reducible repeat (first | refine blk_drewN ?_ _ | refine blk_drew ?_ | refine blk_alloc ?_ _)); exact BK211.out) hb); have n5_ := Aside0.mk (below_step (by repeat (first | (with_reducible first | exact HB.out | apply below_alloc | apply pw_below_drewN | apply below_drew1 | refine below_set ?_ GE210.out | refine below_set ?_ GE211.out) | exact HB.out)) hb); clear HO214; clear HO222; clear BK210; clear BK211; clear HB; have HO214 := n0_; have HO222 := n1_; have HO226 := n2_; have BK210 := n3_; have BK211 := n4_; have HB := n5_; clear n0_ n1_ n2_ n3_ n4_ n5_; (try clear hb); (try clear hb2); (try clear hk); (try clear hi); (try clear ho0)))
    (try simp only [Act.put, List.setIfInBounds_toArray, List.set_cons_zero, List.set_cons_succ])
    go_cut [45] (fun v45 wc => ∃ (kq : Nat) (x45_6 : Bool), v45 = .bool x45_6 ∧ Aside0 (hearsaylaw02_TermSided.j0 kq t220 t223 t224 t227 x45_6 = some r) ∧ Aside0 (kq ≤ k) ∧ Aside0 (Kd.R k46 46 wc w.heap.size (fun k_ => some k_ ≠ (v225 : Value).ownBlock) v221 t220) ∧ Aside0 (Kd.R k46 46 wc w.heap.size (fun k_ => some k_ ≠ (v221 : Value).ownBlock) v225 t224) ∧ Aside0 (wc.heap[gb210]? = some (.cells #[.int .i64 a0_0, .int .i64 a0_1, .string a0_2, .string a0_3, (.slice A0_4 l0_4.length c0_4)] 30 (0, 0))) ∧ Aside0 (wc.heap[gb211]? = some (.cells #[.int .i64 a1_0, .int .i64 a1_1, .string a1_2, .string a1_3, (.slice A1_4 l1_4.length c1_4)] 30 (0, 0))) ∧ Aside0 (Below w.heap.size w wc))
    case first =>
      have H := HC7.out
      clear HC7
      replace H := Option.bind_eq_some_iff.mp H
      obtain ⟨t228, A200, H⟩ := H
      replace H : (if t228 = true then ((term_Principal.f a1_0 a1_1 a1_2).bind fun t229 => (hearsaylaw02_TermSided.j0 k t220 t223 t224 t227 (!t229))) else (hearsaylaw02_TermSided.j0 k t220 t223 t224 t227 false)) = some r := H
      have A20 := Aside0.mk A200
      clear A200
      by_cases c21 : t228 = true
      · subst c21
        have H1 : ((term_Principal.f a1_0 a1_1 a1_2).bind fun t229 => (hearsaylaw02_TermSided.j0 k t220 t223 t224 t227 (!t229))) = some r := by rw [if_pos rfl] at H; exact H
        clear H
        have H := H1
        clear H1
        replace H := Option.bind_eq_some_iff.mp H
        obtain ⟨t229, A220, H⟩ := H
        replace H : (hearsaylaw02_TermSided.j0 k t220 t223 t224 t227 (!t229)) = some r := H
        have A22 := Aside0.mk A220
        clear A220
        have H' := Aside0.mk H
        clear H
        have hnb23 := NB210_211.out
        have hnc23 := NB211_210.out
        have hcz24_0 : w19.cell? ⟨gb210, 0, none⟩ = some (.int .i64 a0_0) := (blk_cell BK210.out 0).trans rfl
        have hcz24_1 : w19.cell? ⟨gb210, 1, none⟩ = some (.int .i64 a0_1) := (blk_cell BK210.out 1).trans rfl
        have hcz24_2 : w19.cell? ⟨gb210, 2, none⟩ = some (.string a0_2) := (blk_cell BK210.out 2).trans rfl
        have hcz24_3 : w19.cell? ⟨gb210, 3, none⟩ = some (.string a0_3) := (blk_cell BK210.out 3).trans rfl
        have hcz24_4 : w19.cell? ⟨gb210, 4, none⟩ = some (.slice A0_4 l0_4.length c0_4) := (blk_cell BK210.out 4).trans rfl
        have hfz24_0 := blk_frozen BK210.out 0
        have hfz24_1 := blk_frozen BK210.out 1
        have hfz24_2 := blk_frozen BK210.out 2
        have hfz24_3 := blk_frozen BK210.out 3
        have hfz24_4 := blk_frozen BK210.out 4
        go_wp2_with (first | ((with_reducible refine gate_callee (f := 10) rfl ?_); refine goesL_ (some 39) rfl rfl Try.func10 (by kernel_rfl) rfl #[.agg #[.int .i64 a0_0, .int .i64 a0_1, .string a0_2]] rfl (by (try simp only [List.map_toArray, List.map_cons, List.map_nil]); first | done | rfl | (simp only [List.length_drop, List.length_take]; rfl)) ?_; (with_reducible refine (term_Variable.calls a0_0 a0_1 a0_2 true _ A20.out).mono ?_); rintro e w25 ⟨rfl, hb⟩; refine ⟨_, rfl, ?_⟩; have n0_ := Aside0.mk (Kd.R_below (by (with_reducible repeat (first | apply Kd.R_alloc | apply Kd.R_drewN | apply Kd.R_drew)); exact HO214.out) hb); have n1_ := Aside0.mk (Kd.R_below (by (with_reducible repeat (first | apply Kd.R_alloc | apply Kd.R_drewN | apply Kd.R_drew)); exact HO222.out) hb); have n2_ := Aside0.mk (Kd.R_below (by (with_reducible repeat (first | apply Kd.R_alloc | apply Kd.R_drewN | apply Kd.R_drew)); exact HO226.out) hb); have n3_ := Aside0.mk (blk_below (g := gb210) (o := .cells #[.int .i64 a0_0, .int .i64 a0_1, .string a0_2, .string a0_3, .slice A0_4 l0_4.length c0_4] 30 (0, 0)) (by (with_reducible repeat (first | refine blk_drewN ?_ _ | refine blk_drew ?_ | refine blk_alloc ?_ _)); exact BK210.out) hb); have n4_ := Aside0.mk (blk_below (g := gb211) (o := .cells #[.int .i64 a1_0, .int .i64 a1_1, .string a1_2, .string a1_3, .slice A1_4 l1_4.length c1_4] 30 (0, 0)) (by (with_reducible repeat (first | refine blk_drewN ?_ _ | refine blk_drew ?_ | refine blk_alloc ?_ _)); exact BK211.out) hb); have n5_ := Aside0.mk (below_step (by repeat (first | (with_reducible first | exact HB.out | apply below_alloc | apply pw_below_drewN | apply below_drew1 | refine below_set ?_ GE210.out | refine below_set ?_ GE211.out) | exact HB.out)) hb); clear HO214; clear HO222; clear HO226; clear BK210; clear BK211; clear HB; have HO214 := n0_; have HO222 := n1_; have HO226 := n2_; have BK210 := n3_; have BK211 := n4_; have HB := n5_; clear n0_ n1_ n2_ n3_ n4_ n5_; (try clear hb); (try clear hb2); (try clear hk); (try clear hi); have hcz26_0 : w25.cell? ⟨gb211, 0, none⟩ = some (.int .i64 a1_0) := (blk_cell BK211.out 0).trans rfl; have hcz26_1 : w25.cell? ⟨gb211, 1, none⟩ = some (.int .i64 a1_1) := (blk_cell BK211.out 1).trans rfl; have hcz26_2 : w25.cell? ⟨gb211, 2, none⟩ = some (.string a1_2) := (blk_cell BK211.out 2).trans rfl; have hcz26_3 : w25.cell? ⟨gb211, 3, none⟩ = some (.string a1_3) := (blk_cell BK211.out 3).trans rfl; have hcz26_4 : w25.cell? ⟨gb211, 4, none⟩ = some (.slice A1_4 l1_4.length c1_4) := (blk_cell BK211.out 4).trans rfl; have hfz26_0 := blk_frozen BK211.out 0; have hfz26_1 := blk_frozen BK211.out 1; have hfz26_2 := blk_frozen BK211.out 2; have hfz26_3 := blk_frozen BK211.out 3; have hfz26_4 := blk_frozen BK211.out 4) | (go_at_call 8; (with_reducible refine (term_Principal.calls a1_0 a1_1 a1_2 t229 _ A22.out).mono ?_); rintro e w27 ⟨rfl, hb⟩; have n0_ := Aside0.mk (Kd.R_below (by (with_reducible repeat (first | apply Kd.R_alloc | apply Kd.R_drewN | apply Kd.R_drew)); exact HO214.out) hb); have n1_ := Aside0.mk (Kd.R_below (by (with_reducible repeat (first | apply Kd.R_alloc | apply Kd.R_drewN | apply Kd.R_drew)); exact HO222.out) hb); have n2_ := Aside0.mk (Kd.R_below (by (with_reducible repeat (first | apply Kd.R_alloc | apply Kd.R_drewN | apply Kd.R_drew)); exact HO226.out) hb); have n3_ := Aside0.mk (blk_below (g := gb210) (o := .cells #[.int .i64 a0_0, .int .i64 a0_1, .string a0_2, .string a0_3, .slice A0_4 l0_4.length c0_4] 30 (0, 0)) (by (with_reducible repeat (first | refine blk_drewN ?_ _ | refine blk_drew ?_ | refine blk_alloc ?_ _)); exact BK210.out) hb); have n4_ := Aside0.mk (blk_below (g := gb211) (o := .cells #[.int .i64 a1_0, .int .i64 a1_1, .string a1_2, .string a1_3, .slice A1_4 l1_4.length c1_4] 30 (0, 0)) (by (with_reducible repeat (first | refine blk_drewN ?_ _ | refine blk_drew ?_ | refine blk_alloc ?_ _)); exact BK211.out) hb); have n5_ := Aside0.mk (below_step (by repeat (first | (with_reducible first | exact HB.out | apply below_alloc | apply pw_below_drewN | apply below_drew1 | refine below_set ?_ GE210.out | refine below_set ?_ GE211.out) | exact HB.out)) hb); clear HO214; clear HO222; clear HO226; clear BK210; clear BK211; clear HB; have HO214 := n0_; have HO222 := n1_; have HO226 := n2_; have BK210 := n3_; have BK211 := n4_; have HB := n5_; clear n0_ n1_ n2_ n3_ n4_ n5_; (try clear hb); (try clear hb2); (try clear hk); (try clear hi)))
        go_meet
        case rel => exact ⟨_, (!t229), (by first | rfl | (simp; done) | (simp [*]; done)), H', ⟨by first | omega | exact Nat.le_refl _⟩, ⟨by (with_reducible repeat (first | apply Kd.R_alloc | apply Kd.R_drewN | apply Kd.R_drew)); exact Kd.R_mono HO222.out (fun _ hk => hk.2)⟩, ⟨by (with_reducible repeat (first | apply Kd.R_alloc | apply Kd.R_drewN | apply Kd.R_drew)); exact Kd.R_mono HO226.out (fun _ hk => hk.2)⟩, ⟨by (with_reducible repeat (first | refine blk_drewN ?_ _ | refine blk_drew ?_ | refine blk_alloc ?_ _)); exact BK210.out⟩, ⟨by (with_reducible repeat (first | refine blk_drewN ?_ _ | refine blk_drew ?_ | refine blk_alloc ?_ _)); exact BK211.out⟩, ⟨by repeat (first | (with_reducible first | exact HB.out | apply below_alloc | apply pw_below_drewN | apply below_drew1 | refine below_set ?_ GE210.out | refine below_set ?_ GE211.out) | exact HB.out)⟩⟩
      · replace c21 := Bool.eq_false_iff.mpr c21
        subst c21
        have H1 : (hearsaylaw02_TermSided.j0 k t220 t223 t224 t227 false) = some r := by rw [if_neg (show ¬ (false = true) by decide)] at H; exact H
        clear H
        have H := H1
        clear H1
        have H' := Aside0.mk H
        clear H
        have hnb28 := NB210_211.out
        have hnc28 := NB211_210.out
        have hcz29_0 : w19.cell? ⟨gb210, 0, none⟩ = some (.int .i64 a0_0) := (blk_cell BK210.out 0).trans rfl
        have hcz29_1 : w19.cell? ⟨gb210, 1, none⟩ = some (.int .i64 a0_1) := (blk_cell BK210.out 1).trans rfl
        have hcz29_2 : w19.cell? ⟨gb210, 2, none⟩ = some (.string a0_2) := (blk_cell BK210.out 2).trans rfl
        have hcz29_3 : w19.cell? ⟨gb210, 3, none⟩ = some (.string a0_3) := (blk_cell BK210.out 3).trans rfl
        have hcz29_4 : w19.cell? ⟨gb210, 4, none⟩ = some (.slice A0_4 l0_4.length c0_4) := (blk_cell BK210.out 4).trans rfl
        have hfz29_0 := blk_frozen BK210.out 0
        have hfz29_1 := blk_frozen BK210.out 1
        have hfz29_2 := blk_frozen BK210.out 2
        have hfz29_3 := blk_frozen BK210.out 3
        have hfz29_4 := blk_frozen BK210.out 4
        go_wp2_with (first | ((with_reducible refine gate_callee (f := 10) rfl ?_); refine goesL_ (some 39) rfl rfl Try.func10 (by kernel_rfl) rfl #[.agg #[.int .i64 a0_0, .int .i64 a0_1, .string a0_2]] rfl (by (try simp only [List.map_toArray, List.map_cons, List.map_nil]); first | done | rfl | (simp only [List.length_drop, List.length_take]; rfl)) ?_; (with_reducible refine (term_Variable.calls a0_0 a0_1 a0_2 false _ A20.out).mono ?_); rintro e w30 ⟨rfl, hb⟩; refine ⟨_, rfl, ?_⟩; have n0_ := Aside0.mk (Kd.R_below (by (with_reducible repeat (first | apply Kd.R_alloc | apply Kd.R_drewN | apply Kd.R_drew)); exact HO214.out) hb); have n1_ := Aside0.mk (Kd.R_below (by (with_reducible repeat (first | apply Kd.R_alloc | apply Kd.R_drewN | apply Kd.R_drew)); exact HO222.out) hb); have n2_ := Aside0.mk (Kd.R_below (by (with_reducible repeat (first | apply Kd.R_alloc | apply Kd.R_drewN | apply Kd.R_drew)); exact HO226.out) hb); have n3_ := Aside0.mk (blk_below (g := gb210) (o := .cells #[.int .i64 a0_0, .int .i64 a0_1, .string a0_2, .string a0_3, .slice A0_4 l0_4.length c0_4] 30 (0, 0)) (by (with_reducible repeat (first | refine blk_drewN ?_ _ | refine blk_drew ?_ | refine blk_alloc ?_ _)); exact BK210.out) hb); have n4_ := Aside0.mk (blk_below (g := gb211) (o := .cells #[.int .i64 a1_0, .int .i64 a1_1, .string a1_2, .string a1_3, .slice A1_4 l1_4.length c1_4] 30 (0, 0)) (by (with_reducible repeat (first | refine blk_drewN ?_ _ | refine blk_drew ?_ | refine blk_alloc ?_ _)); exact BK211.out) hb); have n5_ := Aside0.mk (below_step (by repeat (first | (with_reducible first | exact HB.out | apply below_alloc | apply pw_below_drewN | apply below_drew1 | refine below_set ?_ GE210.out | refine below_set ?_ GE211.out) | exact HB.out)) hb); clear HO214; clear HO222; clear HO226; clear BK210; clear BK211; clear HB; have HO214 := n0_; have HO222 := n1_; have HO226 := n2_; have BK210 := n3_; have BK211 := n4_; have HB := n5_; clear n0_ n1_ n2_ n3_ n4_ n5_; (try clear hb); (try clear hb2); (try clear hk); (try clear hi)))
        go_meet
        case rel => exact ⟨_, (false), (by first | rfl | (simp; done) | (simp [*]; done)), H', ⟨by first | omega | exact Nat.le_refl _⟩, ⟨by (with_reducible repeat (first | apply Kd.R_alloc | apply Kd.R_drewN | apply Kd.R_drew)); exact Kd.R_mono HO222.out (fun _ hk => hk.2)⟩, ⟨by (with_reducible repeat (first | apply Kd.R_alloc | apply Kd.R_drewN | apply Kd.R_drew)); exact Kd.R_mono HO226.out (fun _ hk => hk.2)⟩, ⟨by (with_reducible repeat (first | refine blk_drewN ?_ _ | refine blk_drew ?_ | refine blk_alloc ?_ _)); exact BK210.out⟩, ⟨by (with_reducible repeat (first | refine blk_drewN ?_ _ | refine blk_drew ?_ | refine blk_alloc ?_ _)); exact BK211.out⟩, ⟨by repeat (first | (with_reducible first | exact HB.out | apply below_alloc | apply pw_below_drewN | apply below_drew1 | refine below_set ?_ GE210.out | refine below_set ?_ GE211.out) | exact HB.out)⟩⟩
    case rest =>
      clear HC7
      try clear c1
      try clear c2
      try clear p2
      try clear c4
      try clear c4b0
      try clear c4b1
      try clear c5
      try clear c10
      try clear c17
      try clear c18
      try clear c19
      try clear c21
      try clear c23
      try clear c28
      try clear hcz11_0
      try clear hcz11_1
      try clear hcz11_2
      try clear hcz11_3
      try clear hcz11_4
      try clear hcz14_0
      try clear hcz14_1
      try clear hcz14_2
      try clear hcz14_3
      try clear hcz14_4
      try clear hcz15_0
      try clear hcz15_1
      try clear hcz15_2
      try clear hcz15_3
      try clear hcz15_4
      try clear hcz17_0
      try clear hcz17_1
      try clear hcz17_2
      try clear hcz17_3
      try clear hcz17_4
      try clear hcz18_0
      try clear hcz18_1
      try clear hcz18_2
      try clear hcz18_3
      try clear hcz18_4
      try clear hcz24_0
      try clear hcz24_1
      try clear hcz24_2
      try clear hcz24_3
      try clear hcz24_4
      try clear hcz26_0
      try clear hcz26_1
      try clear hcz26_2
      try clear hcz26_3
      try clear hcz26_4
      try clear hcz29_0
      try clear hcz29_1
      try clear hcz29_2
      try clear hcz29_3
      try clear hcz29_4
      try clear hfz11_0
      try clear hfz11_1
      try clear hfz11_2
      try clear hfz11_3
      try clear hfz11_4
      try clear hfz14_0
      try clear hfz14_1
      try clear hfz14_2
      try clear hfz14_3
      try clear hfz14_4
      try clear hfz15_0
      try clear hfz15_1
      try clear hfz15_2
      try clear hfz15_3
      try clear hfz15_4
      try clear hfz17_0
      try clear hfz17_1
      try clear hfz17_2
      try clear hfz17_3
      try clear hfz17_4
      try clear hfz18_0
      try clear hfz18_1
      try clear hfz18_2
      try clear hfz18_3
      try clear hfz18_4
      try clear hfz24_0
      try clear hfz24_1
      try clear hfz24_2
      try clear hfz24_3
      try clear hfz24_4
      try clear hfz26_0
      try clear hfz26_1
      try clear hfz26_2
      try clear hfz26_3
      try clear hfz26_4
      try clear hfz29_0
      try clear hfz29_1
      try clear hfz29_2
      try clear hfz29_3
      try clear hfz29_4
      obtain ⟨kq, x45_6, rfl, HA, HJ6, HO_7, HO_9, BK210, BK211, HB⟩ := hcut
      cases kq with
      | zero => exact absurd HA.out (by simp [hearsaylaw02_TermSided.j0])
      | succ kj6 =>
        have H := HA.out
        clear HA
        simp only [hearsaylaw02_TermSided.j0] at H
        by_cases c31 : x45_6 = true
        · subst c31
          have H1 : (if t227 = true then (some false) else ((hearsaylaw02_first.f).bind fun t230 => (some t230))) = some r := by rw [if_pos rfl] at H; exact H
          clear H
          have H := H1
          clear H1
          by_cases c32 : t227 = true
          · subst c32
            have H1 : (some false) = some r := by rw [if_pos rfl] at H; exact H
            clear H
            have H := H1
            clear H1
            obtain rfl := Option.some.inj H
            go_wp2
            go_ret
            exact ⟨by first | rfl | (simp [errW_none, errW_some] <;> rfl) | (simp [errW_none, errW_some, bne, show ∀ l_ : List UInt8, (l_ == []) = l_.isEmpty from fun l_ => by cases l_ <;> rfl]; done) | (simp [*, errW_none, errW_some] <;> rfl), by repeat (first | (with_reducible first | exact HB.out | apply below_alloc | apply pw_below_drewN | apply below_drew1 | refine below_set ?_ GE210.out | refine below_set ?_ GE211.out) | exact HB.out)⟩
          · replace c32 := Bool.eq_false_iff.mpr c32
            subst c32
            have H1 : ((hearsaylaw02_first.f).bind fun t230 => (some t230)) = some r := by rw [if_neg (show ¬ (false = true) by decide)] at H; exact H
            clear H
            have H := H1
            clear H1
            replace H := Option.bind_eq_some_iff.mp H
            obtain ⟨t230, A330, H⟩ := H
            replace H : (some t230) = some r := H
            have A33 := Aside0.mk A330
            clear A330
            obtain rfl := Option.some.inj H
            go_wp2_with (first | (go_at_call 14; (with_reducible refine (hearsaylaw02_first.calls  t230 _ A33.out).mono ?_); rintro e w34 ⟨rfl, hb⟩; have n0_ := Aside0.mk (Kd.R_below (by (with_reducible repeat (first | apply Kd.R_alloc | apply Kd.R_drewN | apply Kd.R_drew)); exact HO_7.out) hb); have n1_ := Aside0.mk (Kd.R_below (by (with_reducible repeat (first | apply Kd.R_alloc | apply Kd.R_drewN | apply Kd.R_drew)); exact HO_9.out) hb); have n2_ := Aside0.mk (blk_below (g := gb210) (o := .cells #[.int .i64 a0_0, .int .i64 a0_1, .string a0_2, .string a0_3, .slice A0_4 l0_4.length c0_4] 30 (0, 0)) (by (with_reducible repeat (first | refine blk_drewN ?_ _ | refine blk_drew ?_ | refine blk_alloc ?_ _)); exact BK210.out) hb); have n3_ := Aside0.mk (blk_below (g := gb211) (o := .cells #[.int .i64 a1_0, .int .i64 a1_1, .string a1_2, .string a1_3, .slice A1_4 l1_4.length c1_4] 30 (0, 0)) (by (with_reducible repeat (first | refine blk_drewN ?_ _ | refine blk_drew ?_ | refine blk_alloc ?_ _)); exact BK211.out) hb); have n4_ := Aside0.mk (below_step (by repeat (first | (with_reducible first | exact HB.out | apply below_alloc | apply pw_below_drewN | apply below_drew1 | refine below_set ?_ GE210.out | refine below_set ?_ GE211.out) | exact HB.out)) hb); clear HO_7; clear HO_9; clear BK210; clear BK211; clear HB; have HO_7 := n0_; have HO_9 := n1_; have BK210 := n2_; have BK211 := n3_; have HB := n4_; clear n0_ n1_ n2_ n3_ n4_; (try clear hb); (try clear hb2); (try clear hk); (try clear hi)))
            go_ret
            exact ⟨by first | rfl | (simp [errW_none, errW_some] <;> rfl) | (simp [errW_none, errW_some, bne, show ∀ l_ : List UInt8, (l_ == []) = l_.isEmpty from fun l_ => by cases l_ <;> rfl]; done) | (simp [*, errW_none, errW_some] <;> rfl), by repeat (first | (with_reducible first | exact HB.out | apply below_alloc | apply pw_below_drewN | apply below_drew1 | refine below_set ?_ GE210.out | refine below_set ?_ GE211.out) | exact HB.out)⟩
        · replace c31 := Bool.eq_false_iff.mpr c31
          subst c31
          have H1 : (if (t223 == t227) = true then ((hearsaylaw02_bindings.f kj6 t220 t224).bind fun t231 => (if t231 = true then ((hearsaylaw02_first.f).bind fun t232 => (some t232)) else (some false))) else (some false)) = some r := by rw [if_neg (show ¬ (false = true) by decide)] at H; exact H
          clear H
          have H := H1
          clear H1
          by_cases c35 : (t223 == t227) = true
          · rw [if_pos c35] at H
            have c35b0 : (t223 == t227) = true := c35
            (try (have c35b1 : decide (t223 = t227) = true := by simpa using c35))
            (try (have c35b2 : (t223 == t227) = true := by simpa using c35))
            clear c35
            replace H := Option.bind_eq_some_iff.mp H
            obtain ⟨t231, A360, H⟩ := H
            replace H : (if t231 = true then ((hearsaylaw02_first.f).bind fun t232 => (some t232)) else (some false)) = some r := H
            have A36 := Aside0.mk A360
            clear A360
            by_cases c37 : t231 = true
            · subst c37
              have H1 : ((hearsaylaw02_first.f).bind fun t232 => (some t232)) = some r := by rw [if_pos rfl] at H; exact H
              clear H
              have H := H1
              clear H1
              replace H := Option.bind_eq_some_iff.mp H
              obtain ⟨t232, A380, H⟩ := H
              replace H : (some t232) = some r := H
              have A38 := Aside0.mk A380
              clear A380
              obtain rfl := Option.some.inj H
              obtain ⟨Ao39, co39, eo39⟩ := Kd.R_slice HO_7.out
              subst eo39
              obtain ⟨Ao40, co40, eo40⟩ := Kd.R_slice HO_9.out
              subst eo40
              go_wp2_with (first | (go_at_call 20; (with_reducible refine (hearsaylaw02_bindings.calls kj6 _ _ t220 _ _ t224 true _ ?side1 ?side2 ?side3 ?side4 A36.out).mono ?_); (case side1 => repeat (first | exact (Kd.R_reads' HO_7.out).2.2 | (with_reducible refine Kd.C_alloc ?_ _) | (with_reducible refine Kd.C_drewN ?_ _) | (with_reducible refine Kd.C_drew ?_))); (case side2 => exact (Kd.R_reads' HO_7.out).2.1); (case side3 => repeat (first | exact (Kd.R_reads' HO_9.out).2.2 | (with_reducible refine Kd.C_alloc ?_ _) | (with_reducible refine Kd.C_drewN ?_ _) | (with_reducible refine Kd.C_drew ?_))); (case side4 => exact (Kd.R_reads' HO_9.out).2.1); rintro e w' ⟨rfl, ⟨nd, rfl⟩⟩) | (go_at_call 14; (with_reducible refine (hearsaylaw02_first.calls  t232 _ A38.out).mono ?_); rintro e w41 ⟨rfl, hb⟩; have n0_ := Aside0.mk (Kd.R_below (by (with_reducible repeat (first | apply Kd.R_alloc | apply Kd.R_drewN | apply Kd.R_drew)); exact HO_7.out) hb); have n1_ := Aside0.mk (Kd.R_below (by (with_reducible repeat (first | apply Kd.R_alloc | apply Kd.R_drewN | apply Kd.R_drew)); exact HO_9.out) hb); have n2_ := Aside0.mk (blk_below (g := gb210) (o := .cells #[.int .i64 a0_0, .int .i64 a0_1, .string a0_2, .string a0_3, .slice A0_4 l0_4.length c0_4] 30 (0, 0)) (by (with_reducible repeat (first | refine blk_drewN ?_ _ | refine blk_drew ?_ | refine blk_alloc ?_ _)); exact BK210.out) hb); have n3_ := Aside0.mk (blk_below (g := gb211) (o := .cells #[.int .i64 a1_0, .int .i64 a1_1, .string a1_2, .string a1_3, .slice A1_4 l1_4.length c1_4] 30 (0, 0)) (by (with_reducible repeat (first | refine blk_drewN ?_ _ | refine blk_drew ?_ | refine blk_alloc ?_ _)); exact BK211.out) hb); have n4_ := Aside0.mk (below_step (by repeat (first | (with_reducible first | exact HB.out | apply below_alloc | apply pw_below_drewN | apply below_drew1 | refine below_set ?_ GE210.out | refine below_set ?_ GE211.out) | exact HB.out)) hb); clear HO_7; clear HO_9; clear BK210; clear BK211; clear HB; have HO_7 := n0_; have HO_9 := n1_; have BK210 := n2_; have BK211 := n3_; have HB := n4_; clear n0_ n1_ n2_ n3_ n4_; (try clear hb); (try clear hb2); (try clear hk); (try clear hi)))
              go_ret
              exact ⟨by first | rfl | (simp [errW_none, errW_some] <;> rfl) | (simp [errW_none, errW_some, bne, show ∀ l_ : List UInt8, (l_ == []) = l_.isEmpty from fun l_ => by cases l_ <;> rfl]; done) | (simp [*, errW_none, errW_some] <;> rfl), by repeat (first | (with_reducible first | exact HB.out | apply below_alloc | apply pw_below_drewN | apply below_drew1 | refine below_set ?_ GE210.out | refine below_set ?_ GE211.out) | exact HB.out)⟩
            · replace c37 := Bool.eq_false_iff.mpr c37
              subst c37
              have H1 : (some false) = some r := by rw [if_neg (show ¬ (false = true) by decide)] at H; exact H
              clear H
              have H := H1
              clear H1
              obtain rfl := Option.some.inj H
              obtain ⟨Ao42, co42, eo42⟩ := Kd.R_slice HO_7.out
              subst eo42
              obtain ⟨Ao43, co43, eo43⟩ := Kd.R_slice HO_9.out
              subst eo43
              go_wp2_with (first | (go_at_call 20; (with_reducible refine (hearsaylaw02_bindings.calls kj6 _ _ t220 _ _ t224 false _ ?side1 ?side2 ?side3 ?side4 A36.out).mono ?_); (case side1 => repeat (first | exact (Kd.R_reads' HO_7.out).2.2 | (with_reducible refine Kd.C_alloc ?_ _) | (with_reducible refine Kd.C_drewN ?_ _) | (with_reducible refine Kd.C_drew ?_))); (case side2 => exact (Kd.R_reads' HO_7.out).2.1); (case side3 => repeat (first | exact (Kd.R_reads' HO_9.out).2.2 | (with_reducible refine Kd.C_alloc ?_ _) | (with_reducible refine Kd.C_drewN ?_ _) | (with_reducible refine Kd.C_drew ?_))); (case side4 => exact (Kd.R_reads' HO_9.out).2.1); rintro e w' ⟨rfl, ⟨nd, rfl⟩⟩))
              go_ret
              exact ⟨by first | rfl | (simp [errW_none, errW_some] <;> rfl) | (simp [errW_none, errW_some, bne, show ∀ l_ : List UInt8, (l_ == []) = l_.isEmpty from fun l_ => by cases l_ <;> rfl]; done) | (simp [*, errW_none, errW_some] <;> rfl), by repeat (first | (with_reducible first | exact HB.out | apply below_alloc | apply pw_below_drewN | apply below_drew1 | refine below_set ?_ GE210.out | refine below_set ?_ GE211.out) | exact HB.out)⟩
          · rw [if_neg c35] at H
            have c35b0 : (t223 == t227) = false := by simpa using c35
            (try (have c35b1 : decide (t223 = t227) = false := by simpa using c35))
            (try (have c35b2 : (t223 == t227) = false := by simpa using c35))
            (try (have c35b3 : ¬ (t223 = t227) := by simpa using c35))
            clear c35
            obtain rfl := Option.some.inj H
            go_wp2
            go_ret
            exact ⟨by first | rfl | (simp [errW_none, errW_some] <;> rfl) | (simp [errW_none, errW_some, bne, show ∀ l_ : List UInt8, (l_ == []) = l_.isEmpty from fun l_ => by cases l_ <;> rfl]; done) | (simp [*, errW_none, errW_some] <;> rfl), by repeat (first | (with_reducible first | exact HB.out | apply below_alloc | apply pw_below_drewN | apply below_drew1 | refine below_set ?_ GE210.out | refine below_set ?_ GE211.out) | exact HB.out)⟩
  · rw [if_neg c4] at H
    have c4b0 : ((t212.length : Int) == 0) = false := beq_eq_false_iff_ne.mpr c4
    have c4b1 : ((t212.length : Int) != 0) = true := bne_iff_ne.mpr c4
    have c4b2 : ¬ (t212 = []) := fun h_ => c4 (by rw [h_]; rfl)
    replace H := Option.bind_eq_some_iff.mp H
    obtain ⟨⟨t215, t218⟩, A440, H⟩ := H
    replace H : (if t218 = true then ((hearsaylaw02_first.f).bind fun t219 => (some t219)) else (some false)) = some r := H
    have A44 := Aside0.mk A440
    clear A440
    by_cases c45 : t218 = true
    · subst c45
      have H1 : ((hearsaylaw02_first.f).bind fun t219 => (some t219)) = some r := by rw [if_pos rfl] at H; exact H
      clear H
      have H := H1
      clear H1
      replace H := Option.bind_eq_some_iff.mp H
      obtain ⟨t219, A460, H⟩ := H
      replace H : (some t219) = some r := H
      have A46 := Aside0.mk A460
      clear A460
      obtain rfl := Option.some.inj H
      go_enter Try.func5, Try.ntmps5
      go_wp2_with (first | ((with_reducible refine gate_dst (N := 2) rfl ?_); refine box_event ?hg (N := 2) ?hd (cs := #[.int .i64 a0_0, .int .i64 a0_1, .string a0_2, .string a0_3, .slice A0_4 l0_4.length c0_4]) (t := 30) ?hr ?_; (case hd => rfl); (case hg => rfl); (case hr => first | (go_simp; done) | (go_simp; rfl)); intro gb210 hg w47 hbox hb; have n0_ := Aside0.mk (below_step (by repeat (first | (with_reducible first | exact HB.out | apply below_alloc | apply pw_below_drewN | apply below_drew1) | exact HB.out)) hb); have n1_ := Aside0.mk (hbox); have n2_ := Aside0.mk ((by rw [hg]; exact (below_size (by repeat (first | (with_reducible first | exact HB.out | apply below_alloc | apply pw_below_drewN | apply below_drew1) | exact HB.out))) : w.heap.size ≤ gb210)); have n3_ := Aside0.mk ((by rw [hg]; exact (below_size (by repeat (first | (with_reducible first | exact HB.out | apply below_alloc | apply pw_below_drewN | apply below_drew1) | exact HB.out))) : w.heap.size ≤ gb210)); clear HB; have HB := n0_; have BK210 := n1_; have GW210 := n2_; have GE210 := n3_; clear n0_ n1_ n2_ n3_; clear hb hbox hg) | ((with_reducible refine gate_dst (N := 3) rfl ?_); refine box_event ?hg (N := 3) ?hd (cs := #[.int .i64 a1_0, .int .i64 a1_1, .string a1_2, .string a1_3, .slice A1_4 l1_4.length c1_4]) (t := 30) ?hr ?_; (case hd => rfl); (case hg => rfl); (case hr => first | (go_simp; done) | (go_simp; rfl)); intro gb211 hg w48 hbox hb; have n0_ := Aside0.mk (blk_below (g := gb210) (o := .cells #[.int .i64 a0_0, .int .i64 a0_1, .string a0_2, .string a0_3, .slice A0_4 l0_4.length c0_4] 30 (0, 0)) (by (with_reducible repeat (first | refine blk_drewN ?_ _ | refine blk_drew ?_ | refine blk_alloc ?_ _)); exact BK210.out) hb); have n1_ := Aside0.mk (below_step (by repeat (first | (with_reducible first | exact HB.out | apply below_alloc | apply pw_below_drewN | apply below_drew1 | refine below_set ?_ GE210.out) | exact HB.out)) hb); have n2_ := Aside0.mk (hbox); have n3_ := Aside0.mk ((by rw [hg]; exact (below_size (by repeat (first | (with_reducible first | exact HB.out | apply below_alloc | apply pw_below_drewN | apply below_drew1 | refine below_set ?_ GE210.out) | exact HB.out))) : w.heap.size ≤ gb211)); have n4_ := Aside0.mk ((by rw [hg]; exact (below_size (by repeat (first | (with_reducible first | exact HB.out | apply below_alloc | apply pw_below_drewN | apply below_drew1 | refine below_set ?_ GE210.out) | exact HB.out))) : w.heap.size ≤ gb211)); have n5_ := Aside0.mk ((by rw [hg]; exact Nat.ne_of_lt (blk_lt (g := gb210) (o := .cells #[.int .i64 a0_0, .int .i64 a0_1, .string a0_2, .string a0_3, .slice A0_4 l0_4.length c0_4] 30 (0, 0)) (by (with_reducible repeat (first | refine blk_drewN ?_ _ | refine blk_drew ?_ | refine blk_alloc ?_ _)); exact BK210.out)) : gb210 ≠ gb211)); have n6_ := Aside0.mk ((by rw [hg]; exact Nat.ne_of_gt (blk_lt (g := gb210) (o := .cells #[.int .i64 a0_0, .int .i64 a0_1, .string a0_2, .string a0_3, .slice A0_4 l0_4.length c0_4] 30 (0, 0)) (by (with_reducible repeat (first | refine blk_drewN ?_ _ | refine blk_drew ?_ | refine blk_alloc ?_ _)); exact BK210.out)) : gb211 ≠ gb210)); clear BK210; clear HB; have BK210 := n0_; have HB := n1_; have BK211 := n2_; have GW211 := n3_; have GE211 := n4_; have NB210_211 := n5_; have NB211_210 := n6_; clear n0_ n1_ n2_ n3_ n4_ n5_ n6_; clear hb hbox hg; have hnb49 := NB211_210.out; have hnc49 := NB210_211.out; have hcz50_0 : w48.cell? ⟨gb211, 0, none⟩ = some (.int .i64 a1_0) := (blk_cell BK211.out 0).trans rfl; have hcz50_1 : w48.cell? ⟨gb211, 1, none⟩ = some (.int .i64 a1_1) := (blk_cell BK211.out 1).trans rfl; have hcz50_2 : w48.cell? ⟨gb211, 2, none⟩ = some (.string a1_2) := (blk_cell BK211.out 2).trans rfl; have hcz50_3 : w48.cell? ⟨gb211, 3, none⟩ = some (.string a1_3) := (blk_cell BK211.out 3).trans rfl; have hcz50_4 : w48.cell? ⟨gb211, 4, none⟩ = some (.slice A1_4 l1_4.length c1_4) := (blk_cell BK211.out 4).trans rfl; have hfz50_0 := blk_frozen BK211.out 0; have hfz50_1 := blk_frozen BK211.out 1; have hfz50_2 := blk_frozen BK211.out 2; have hfz50_3 := blk_frozen BK211.out 3; have hfz50_4 := blk_frozen BK211.out 4) | ((with_reducible refine gate_callee (f := 17) rfl ?_); refine goesL_ (some 12) rfl rfl Try.func17 (by kernel_rfl) rfl #[.agg #[.int .i64 a1_0, .int .i64 a1_1, .string a1_2, .string a1_3, .slice A1_4 l1_4.length c1_4]] rfl (by (try simp only [List.map_toArray, List.map_cons, List.map_nil]); first | done | rfl | (simp only [List.length_drop, List.length_take]; rfl)) ?_; (with_reducible refine (term_Vars.calls a1_0 a1_1 a1_2 a1_3 _ _ l1_4 t212 _ ?side1 ?side2 A3.out).mono ?_); (case side1 => repeat (first | exact (Kd.C_below HR1_4.out HB.out) | (with_reducible refine Kd.C_alloc ?_ _) | (with_reducible refine Kd.C_drewN ?_ _) | (with_reducible refine Kd.C_drew ?_))); (case side2 => exact HC1_4.out); rintro e w51 ⟨v213, rfl, ho0, hb⟩; refine ⟨_, rfl, ?_⟩; have n0_ := Aside0.mk (Kd.R_lower ho0 (below_size (by repeat (first | (with_reducible first | exact HB.out | apply below_alloc | apply pw_below_drewN | apply below_drew1 | refine below_set ?_ GE210.out | refine below_set ?_ GE211.out) | exact HB.out)))); have n1_ := Aside0.mk (blk_below (g := gb210) (o := .cells #[.int .i64 a0_0, .int .i64 a0_1, .string a0_2, .string a0_3, .slice A0_4 l0_4.length c0_4] 30 (0, 0)) (by (with_reducible repeat (first | refine blk_drewN ?_ _ | refine blk_drew ?_ | refine blk_alloc ?_ _)); exact BK210.out) hb); have n2_ := Aside0.mk (blk_below (g := gb211) (o := .cells #[.int .i64 a1_0, .int .i64 a1_1, .string a1_2, .string a1_3, .slice A1_4 l1_4.length c1_4] 30 (0, 0)) (by (with_reducible repeat (first | refine blk_drewN ?_ _ | refine blk_drew ?_ | refine blk_alloc ?_ _)); exact BK211.out) hb); have n3_ := Aside0.mk (below_step (by repeat (first | (with_reducible first | exact HB.out | apply below_alloc | apply pw_below_drewN | apply below_drew1 | refine below_set ?_ GE210.out | refine below_set ?_ GE211.out) | exact HB.out)) hb); clear BK210; clear BK211; clear HB; have HO214 := n0_; have BK210 := n1_; have BK211 := n2_; have HB := n3_; clear n0_ n1_ n2_ n3_; (try clear hb); (try clear hb2); (try clear hk); (try clear hi); (try clear ho0); obtain ⟨Ao52, co52, eo52⟩ := Kd.R_slice HO214.out; subst eo52; have hcz53_0 : w51.cell? ⟨gb211, 0, none⟩ = some (.int .i64 a1_0) := (blk_cell BK211.out 0).trans rfl; have hcz53_1 : w51.cell? ⟨gb211, 1, none⟩ = some (.int .i64 a1_1) := (blk_cell BK211.out 1).trans rfl; have hcz53_2 : w51.cell? ⟨gb211, 2, none⟩ = some (.string a1_2) := (blk_cell BK211.out 2).trans rfl; have hcz53_3 : w51.cell? ⟨gb211, 3, none⟩ = some (.string a1_3) := (blk_cell BK211.out 3).trans rfl; have hcz53_4 : w51.cell? ⟨gb211, 4, none⟩ = some (.slice A1_4 l1_4.length c1_4) := (blk_cell BK211.out 4).trans rfl; have hfz53_0 := blk_frozen BK211.out 0; have hfz53_1 := blk_frozen BK211.out 1; have hfz53_2 := blk_frozen BK211.out 2; have hfz53_3 := blk_frozen BK211.out 3; have hfz53_4 := blk_frozen BK211.out 4) | ((with_reducible refine gate_callee (f := 18) rfl ?_); refine goesL_ (some 18) rfl rfl Try.func18 (by kernel_rfl) rfl #[.agg #[.int .i64 a1_0, .int .i64 a1_1, .string a1_2, .string a1_3, .slice A1_4 l1_4.length c1_4], .agg #[.int .i64 a1_0, .int .i64 a1_1, .string a1_2, .string a1_3, .slice A1_4 l1_4.length c1_4]] rfl (by (try simp only [List.map_toArray, List.map_cons, List.map_nil]); first | done | rfl | (simp only [List.length_drop, List.length_take]; rfl)) ?_; (with_reducible refine (term_Unify.calls a1_0 a1_1 a1_2 a1_3 _ _ l1_4 a1_0 a1_1 a1_2 a1_3 _ _ l1_4 t215 true _ ?side1 ?side2 ?side3 ?side4 A44.out).mono ?_); (case side1 => repeat (first | exact (Kd.C_below HR1_4.out HB.out) | (with_reducible refine Kd.C_alloc ?_ _) | (with_reducible refine Kd.C_drewN ?_ _) | (with_reducible refine Kd.C_drew ?_))); (case side2 => exact HC1_4.out); (case side3 => repeat (first | exact (Kd.C_below HR1_4.out HB.out) | (with_reducible refine Kd.C_alloc ?_ _) | (with_reducible refine Kd.C_drewN ?_ _) | (with_reducible refine Kd.C_drew ?_))); (case side4 => exact HC1_4.out); rintro e w54 ⟨v216, rfl, ho0, hb⟩; refine ⟨_, rfl, ?_⟩; have n0_ := Aside0.mk (Kd.R_below (by (with_reducible repeat (first | apply Kd.R_alloc | apply Kd.R_drewN | apply Kd.R_drew)); exact HO214.out) hb); have n1_ := Aside0.mk (Kd.R_lower ho0 (below_size (by repeat (first | (with_reducible first | exact HB.out | apply below_alloc | apply pw_below_drewN | apply below_drew1 | refine below_set ?_ GE210.out | refine below_set ?_ GE211.out) | exact HB.out)))); have n2_ := Aside0.mk (blk_below (g := gb210) (o := .cells #[.int .i64 a0_0, .int .i64 a0_1, .string a0_2, .string a0_3, .slice A0_4 l0_4.length c0_4] 30 (0, 0)) (by (with_reducible repeat (first | refine blk_drewN ?_ _ | refine blk_drew ?_ | refine blk_alloc ?_ _)); exact BK210.out) hb); have n3_ := Aside0.mk (blk_below (g := gb211) (o := .cells #[.int .i64 a1_0, .int .i64 a1_1, .string a1_2, .string a1_3, .slice A1_4 l1_4.length c1_4] 30 (0, 0)) (by (with_reducible repeat (first | refine blk_drewN ?_ _ | refine blk_drew ?_ | refine blk_alloc ?_ _)); exact BK211.out) hb); have n4_ := Aside0.mk (below_step (by repeat (first | (with_reducible first | exact HB.out | apply below_alloc | apply pw_below_drewN | apply below_drew1 | refine below_set ?_ GE210.out | refine below_set ?_ GE211.out) | exact HB.out)) hb); clear HO214; clear BK210; clear BK211; clear HB; have HO214 := n0_; have HO217 := n1_; have BK210 := n2_; have BK211 := n3_; have HB := n4_; clear n0_ n1_ n2_ n3_ n4_; (try clear hb); (try clear hb2); (try clear hk); (try clear hi); (try clear ho0)) | (go_at_call 14; (with_reducible refine (hearsaylaw02_first.calls  t219 _ A46.out).mono ?_); rintro e w55 ⟨rfl, hb⟩; have n0_ := Aside0.mk (Kd.R_below (by (with_reducible repeat (first | apply Kd.R_alloc | apply Kd.R_drewN | apply Kd.R_drew)); exact HO214.out) hb); have n1_ := Aside0.mk (Kd.R_below (by (with_reducible repeat (first | apply Kd.R_alloc | apply Kd.R_drewN | apply Kd.R_drew)); exact HO217.out) hb); have n2_ := Aside0.mk (blk_below (g := gb210) (o := .cells #[.int .i64 a0_0, .int .i64 a0_1, .string a0_2, .string a0_3, .slice A0_4 l0_4.length c0_4] 30 (0, 0)) (by (with_reducible repeat (first | refine blk_drewN ?_ _ | refine blk_drew ?_ | refine blk_alloc ?_ _)); exact BK210.out) hb); have n3_ := Aside0.mk (blk_below (g := gb211) (o := .cells #[.int .i64 a1_0, .int .i64 a1_1, .string a1_2, .string a1_3, .slice A1_4 l1_4.length c1_4] 30 (0, 0)) (by (with_reducible repeat (first | refine blk_drewN ?_ _ | refine blk_drew ?_ | refine blk_alloc ?_ _)); exact BK211.out) hb); have n4_ := Aside0.mk (below_step (by repeat (first | (with_reducible first | exact HB.out | apply below_alloc | apply pw_below_drewN | apply below_drew1 | refine below_set ?_ GE210.out | refine below_set ?_ GE211.out) | exact HB.out)) hb); clear HO214; clear HO217; clear BK210; clear BK211; clear HB; have HO214 := n0_; have HO217 := n1_; have BK210 := n2_; have BK211 := n3_; have HB := n4_; clear n0_ n1_ n2_ n3_ n4_; (try clear hb); (try clear hb2); (try clear hk); (try clear hi)))
      go_ret
      exact ⟨by first | rfl | (simp [errW_none, errW_some] <;> rfl) | (simp [errW_none, errW_some, bne, show ∀ l_ : List UInt8, (l_ == []) = l_.isEmpty from fun l_ => by cases l_ <;> rfl]; done) | (simp [*, errW_none, errW_some] <;> rfl), by repeat (first | (with_reducible first | exact HB.out | apply below_alloc | apply pw_below_drewN | apply below_drew1 | refine below_set ?_ GE210.out | refine below_set ?_ GE211.out) | exact HB.out)⟩
    · replace c45 := Bool.eq_false_iff.mpr c45
      subst c45
      have H1 : (some false) = some r := by rw [if_neg (show ¬ (false = true) by decide)] at H; exact H
      clear H
      have H := H1
      clear H1
      obtain rfl := Option.some.inj H
      go_enter Try.func5, Try.ntmps5
      go_wp2_with (first | ((with_reducible refine gate_dst (N := 2) rfl ?_); refine box_event ?hg (N := 2) ?hd (cs := #[.int .i64 a0_0, .int .i64 a0_1, .string a0_2, .string a0_3, .slice A0_4 l0_4.length c0_4]) (t := 30) ?hr ?_; (case hd => rfl); (case hg => rfl); (case hr => first | (go_simp; done) | (go_simp; rfl)); intro gb210 hg w56 hbox hb; have n0_ := Aside0.mk (below_step (by repeat (first | (with_reducible first | exact HB.out | apply below_alloc | apply pw_below_drewN | apply below_drew1) | exact HB.out)) hb); have n1_ := Aside0.mk (hbox); have n2_ := Aside0.mk ((by rw [hg]; exact (below_size (by repeat (first | (with_reducible first | exact HB.out | apply below_alloc | apply pw_below_drewN | apply below_drew1) | exact HB.out))) : w.heap.size ≤ gb210)); have n3_ := Aside0.mk ((by rw [hg]; exact (below_size (by repeat (first | (with_reducible first | exact HB.out | apply below_alloc | apply pw_below_drewN | apply below_drew1) | exact HB.out))) : w.heap.size ≤ gb210)); clear HB; have HB := n0_; have BK210 := n1_; have GW210 := n2_; have GE210 := n3_; clear n0_ n1_ n2_ n3_; clear hb hbox hg) | ((with_reducible refine gate_dst (N := 3) rfl ?_); refine box_event ?hg (N := 3) ?hd (cs := #[.int .i64 a1_0, .int .i64 a1_1, .string a1_2, .string a1_3, .slice A1_4 l1_4.length c1_4]) (t := 30) ?hr ?_; (case hd => rfl); (case hg => rfl); (case hr => first | (go_simp; done) | (go_simp; rfl)); intro gb211 hg w57 hbox hb; have n0_ := Aside0.mk (blk_below (g := gb210) (o := .cells #[.int .i64 a0_0, .int .i64 a0_1, .string a0_2, .string a0_3, .slice A0_4 l0_4.length c0_4] 30 (0, 0)) (by (with_reducible repeat (first | refine blk_drewN ?_ _ | refine blk_drew ?_ | refine blk_alloc ?_ _)); exact BK210.out) hb); have n1_ := Aside0.mk (below_step (by repeat (first | (with_reducible first | exact HB.out | apply below_alloc | apply pw_below_drewN | apply below_drew1 | refine below_set ?_ GE210.out) | exact HB.out)) hb); have n2_ := Aside0.mk (hbox); have n3_ := Aside0.mk ((by rw [hg]; exact (below_size (by repeat (first | (with_reducible first | exact HB.out | apply below_alloc | apply pw_below_drewN | apply below_drew1 | refine below_set ?_ GE210.out) | exact HB.out))) : w.heap.size ≤ gb211)); have n4_ := Aside0.mk ((by rw [hg]; exact (below_size (by repeat (first | (with_reducible first | exact HB.out | apply below_alloc | apply pw_below_drewN | apply below_drew1 | refine below_set ?_ GE210.out) | exact HB.out))) : w.heap.size ≤ gb211)); have n5_ := Aside0.mk ((by rw [hg]; exact Nat.ne_of_lt (blk_lt (g := gb210) (o := .cells #[.int .i64 a0_0, .int .i64 a0_1, .string a0_2, .string a0_3, .slice A0_4 l0_4.length c0_4] 30 (0, 0)) (by (with_reducible repeat (first | refine blk_drewN ?_ _ | refine blk_drew ?_ | refine blk_alloc ?_ _)); exact BK210.out)) : gb210 ≠ gb211)); have n6_ := Aside0.mk ((by rw [hg]; exact Nat.ne_of_gt (blk_lt (g := gb210) (o := .cells #[.int .i64 a0_0, .int .i64 a0_1, .string a0_2, .string a0_3, .slice A0_4 l0_4.length c0_4] 30 (0, 0)) (by (with_reducible repeat (first | refine blk_drewN ?_ _ | refine blk_drew ?_ | refine blk_alloc ?_ _)); exact BK210.out)) : gb211 ≠ gb210)); clear BK210; clear HB; have BK210 := n0_; have HB := n1_; have BK211 := n2_; have GW211 := n3_; have GE211 := n4_; have NB210_211 := n5_; have NB211_210 := n6_; clear n0_ n1_ n2_ n3_ n4_ n5_ n6_; clear hb hbox hg; have hnb58 := NB211_210.out; have hnc58 := NB210_211.out; have hcz59_0 : w57.cell? ⟨gb211, 0, none⟩ = some (.int .i64 a1_0) := (blk_cell BK211.out 0).trans rfl; have hcz59_1 : w57.cell? ⟨gb211, 1, none⟩ = some (.int .i64 a1_1) := (blk_cell BK211.out 1).trans rfl; have hcz59_2 : w57.cell? ⟨gb211, 2, none⟩ = some (.string a1_2) := (blk_cell BK211.out 2).trans rfl; have hcz59_3 : w57.cell? ⟨gb211, 3, none⟩ = some (.string a1_3) := (blk_cell BK211.out 3).trans rfl; have hcz59_4 : w57.cell? ⟨gb211, 4, none⟩ = some (.slice A1_4 l1_4.length c1_4) := (blk_cell BK211.out 4).trans rfl; have hfz59_0 := blk_frozen BK211.out 0; have hfz59_1 := blk_frozen BK211.out 1; have hfz59_2 := blk_frozen BK211.out 2; have hfz59_3 := blk_frozen BK211.out 3; have hfz59_4 := blk_frozen BK211.out 4) | ((with_reducible refine gate_callee (f := 17) rfl ?_); refine goesL_ (some 12) rfl rfl Try.func17 (by kernel_rfl) rfl #[.agg #[.int .i64 a1_0, .int .i64 a1_1, .string a1_2, .string a1_3, .slice A1_4 l1_4.length c1_4]] rfl (by (try simp only [List.map_toArray, List.map_cons, List.map_nil]); first | done | rfl | (simp only [List.length_drop, List.length_take]; rfl)) ?_; (with_reducible refine (term_Vars.calls a1_0 a1_1 a1_2 a1_3 _ _ l1_4 t212 _ ?side1 ?side2 A3.out).mono ?_); (case side1 => repeat (first | exact (Kd.C_below HR1_4.out HB.out) | (with_reducible refine Kd.C_alloc ?_ _) | (with_reducible refine Kd.C_drewN ?_ _) | (with_reducible refine Kd.C_drew ?_))); (case side2 => exact HC1_4.out); rintro e w60 ⟨v213, rfl, ho0, hb⟩; refine ⟨_, rfl, ?_⟩; have n0_ := Aside0.mk (Kd.R_lower ho0 (below_size (by repeat (first | (with_reducible first | exact HB.out | apply below_alloc | apply pw_below_drewN | apply below_drew1 | refine below_set ?_ GE210.out | refine below_set ?_ GE211.out) | exact HB.out)))); have n1_ := Aside0.mk (blk_below (g := gb210) (o := .cells #[.int .i64 a0_0, .int .i64 a0_1, .string a0_2, .string a0_3, .slice A0_4 l0_4.length c0_4] 30 (0, 0)) (by (with_reducible repeat (first | refine blk_drewN ?_ _ | refine blk_drew ?_ | refine blk_alloc ?_ _)); exact BK210.out) hb); have n2_ := Aside0.mk (blk_below (g := gb211) (o := .cells #[.int .i64 a1_0, .int .i64 a1_1, .string a1_2, .string a1_3, .slice A1_4 l1_4.length c1_4] 30 (0, 0)) (by (with_reducible repeat (first | refine blk_drewN ?_ _ | refine blk_drew ?_ | refine blk_alloc ?_ _)); exact BK211.out) hb); have n3_ := Aside0.mk (below_step (by repeat (first | (with_reducible first | exact HB.out | apply below_alloc | apply pw_below_drewN | apply below_drew1 | refine below_set ?_ GE210.out | refine below_set ?_ GE211.out) | exact HB.out)) hb); clear BK210; clear BK211; clear HB; have HO214 := n0_; have BK210 := n1_; have BK211 := n2_; have HB := n3_; clear n0_ n1_ n2_ n3_; (try clear hb); (try clear hb2); (try clear hk); (try clear hi); (try clear ho0); obtain ⟨Ao61, co61, eo61⟩ := Kd.R_slice HO214.out; subst eo61; have hcz62_0 : w60.cell? ⟨gb211, 0, none⟩ = some (.int .i64 a1_0) := (blk_cell BK211.out 0).trans rfl; have hcz62_1 : w60.cell? ⟨gb211, 1, none⟩ = some (.int .i64 a1_1) := (blk_cell BK211.out 1).trans rfl; have hcz62_2 : w60.cell? ⟨gb211, 2, none⟩ = some (.string a1_2) := (blk_cell BK211.out 2).trans rfl; have hcz62_3 : w60.cell? ⟨gb211, 3, none⟩ = some (.string a1_3) := (blk_cell BK211.out 3).trans rfl; have hcz62_4 : w60.cell? ⟨gb211, 4, none⟩ = some (.slice A1_4 l1_4.length c1_4) := (blk_cell BK211.out 4).trans rfl; have hfz62_0 := blk_frozen BK211.out 0; have hfz62_1 := blk_frozen BK211.out 1; have hfz62_2 := blk_frozen BK211.out 2; have hfz62_3 := blk_frozen BK211.out 3; have hfz62_4 := blk_frozen BK211.out 4) | ((with_reducible refine gate_callee (f := 18) rfl ?_); refine goesL_ (some 18) rfl rfl Try.func18 (by kernel_rfl) rfl #[.agg #[.int .i64 a1_0, .int .i64 a1_1, .string a1_2, .string a1_3, .slice A1_4 l1_4.length c1_4], .agg #[.int .i64 a1_0, .int .i64 a1_1, .string a1_2, .string a1_3, .slice A1_4 l1_4.length c1_4]] rfl (by (try simp only [List.map_toArray, List.map_cons, List.map_nil]); first | done | rfl | (simp only [List.length_drop, List.length_take]; rfl)) ?_; (with_reducible refine (term_Unify.calls a1_0 a1_1 a1_2 a1_3 _ _ l1_4 a1_0 a1_1 a1_2 a1_3 _ _ l1_4 t215 false _ ?side1 ?side2 ?side3 ?side4 A44.out).mono ?_); (case side1 => repeat (first | exact (Kd.C_below HR1_4.out HB.out) | (with_reducible refine Kd.C_alloc ?_ _) | (with_reducible refine Kd.C_drewN ?_ _) | (with_reducible refine Kd.C_drew ?_))); (case side2 => exact HC1_4.out); (case side3 => repeat (first | exact (Kd.C_below HR1_4.out HB.out) | (with_reducible refine Kd.C_alloc ?_ _) | (with_reducible refine Kd.C_drewN ?_ _) | (with_reducible refine Kd.C_drew ?_))); (case side4 => exact HC1_4.out); rintro e w63 ⟨v216, rfl, ho0, hb⟩; refine ⟨_, rfl, ?_⟩; have n0_ := Aside0.mk (Kd.R_below (by (with_reducible repeat (first | apply Kd.R_alloc | apply Kd.R_drewN | apply Kd.R_drew)); exact HO214.out) hb); have n1_ := Aside0.mk (Kd.R_lower ho0 (below_size (by repeat (first | (with_reducible first | exact HB.out | apply below_alloc | apply pw_below_drewN | apply below_drew1 | refine below_set ?_ GE210.out | refine below_set ?_ GE211.out) | exact HB.out)))); have n2_ := Aside0.mk (blk_below (g := gb210) (o := .cells #[.int .i64 a0_0, .int .i64 a0_1, .string a0_2, .string a0_3, .slice A0_4 l0_4.length c0_4] 30 (0, 0)) (by (with_reducible repeat (first | refine blk_drewN ?_ _ | refine blk_drew ?_ | refine blk_alloc ?_ _)); exact BK210.out) hb); have n3_ := Aside0.mk (blk_below (g := gb211) (o := .cells #[.int .i64 a1_0, .int .i64 a1_1, .string a1_2, .string a1_3, .slice A1_4 l1_4.length c1_4] 30 (0, 0)) (by (with_reducible repeat (first | refine blk_drewN ?_ _ | refine blk_drew ?_ | refine blk_alloc ?_ _)); exact BK211.out) hb); have n4_ := Aside0.mk (below_step (by repeat (first | (with_reducible first | exact HB.out | apply below_alloc | apply pw_below_drewN | apply below_drew1 | refine below_set ?_ GE210.out | refine below_set ?_ GE211.out) | exact HB.out)) hb); clear HO214; clear BK210; clear BK211; clear HB; have HO214 := n0_; have HO217 := n1_; have BK210 := n2_; have BK211 := n3_; have HB := n4_; clear n0_ n1_ n2_ n3_ n4_; (try clear hb); (try clear hb2); (try clear hk); (try clear hi); (try clear ho0)))
      go_ret
      exact ⟨by first | rfl | (simp [errW_none, errW_some] <;> rfl) | (simp [errW_none, errW_some, bne, show ∀ l_ : List UInt8, (l_ == []) = l_.isEmpty from fun l_ => by cases l_ <;> rfl]; done) | (simp [*, errW_none, errW_some] <;> rfl), by repeat (first | (with_reducible first | exact HB.out | apply below_alloc | apply pw_below_drewN | apply below_drew1 | refine below_set ?_ GE210.out | refine below_set ?_ GE211.out) | exact HB.out)⟩

end Go.Proofs.Ytnomgmlfagiffaa.T
/- Look and Become in closed form: the program's and the document's are the same. -/
set_option linter.unusedVariables false
set_option linter.unusedSimpArgs false
namespace Go.Proofs.Ytnomgmlfagiffaa.T
open Go.RowKit Go.Lib Go.Proofs.YtnomgmlfagiffaaW.PrintWords
theorem getM_cons (b : Bd) (s : List Bd) (v : Int) : getM (b :: s) v = if b.f0 = v then some b.f1 else getM s v := by
  unfold getM
  rw [List.find?_cons]
  by_cases h : b.f0 = v
  · simp [h]
  · rw [show (b.f0 == v) = false by simpa using h, if_neg h]
def becomeT (s : List Bd) (t : Tm) : Tm := if isVar t then (getM s t.f1).getD t else t
end Go.Proofs.Ytnomgmlfagiffaa.T
/- Matching, plainly: the map of the steps is the map of the binding grown step by step. -/
set_option linter.unusedVariables false
set_option linter.unusedSimpArgs false
namespace Go.Proofs.Ytnomgmlfagiffaa.T
open Go.RowKit Go.Lib Go.Proofs.YtnomgmlfagiffaaW.PrintWords Go.Proofs.Ytnomgmlfagiffaa.Hs
theorem getM_nil (v : Int) : getM [] v = none := rfl
theorem getM_app (s r : List Bd) (v : Int) : getM (s ++ r) v = (getM s v).or (getM r v) := by
  induction s with
  | nil => simp [getM_nil]
  | cons b s ih =>
    rw [List.cons_append, getM_cons, getM_cons, ih]
    split
    · rfl
    · rfl
theorem getM_put {v : Int} {t : Tm} (w : Int) : ∀ {m : List Bd}, Rising m → getM (putM v t m) w = if v = w then some t else getM m w
  | [], _ => by rw [putM, getM_cons]
  | c :: r, h => by
    obtain ⟨h1, h2⟩ := List.pairwise_cons.1 h
    unfold putM
    split
    · rw [getM_cons]
    · split
      · rename_i hv
        rw [getM_cons, getM_cons]
        by_cases e : v = w
        · rw [if_pos e, if_pos e]
        · rw [if_neg e, if_neg e, if_neg (by omega)]
      · rename_i hv hc
        rw [getM_cons, getM_put w h2, getM_cons]
        by_cases e : v = w
        · rw [if_neg (by omega), if_pos e, if_pos e]
        · rw [if_neg e, if_neg e]
theorem putM_same {v : Int} {t : Tm} : ∀ {m : List Bd}, Rising m → getM m v = some t → putM v t m = m
  | [], _, h => by simp [getM_nil] at h
  | c :: r, hm, h => by
    obtain ⟨h1, h2⟩ := List.pairwise_cons.1 hm
    rw [getM_cons] at h
    unfold putM
    by_cases e : c.f0 = v
    · rw [if_pos e] at h
      injection h with h
      rw [if_neg (by omega), if_pos e]
      cases c
      simp only at e h
      subst e h
      rfl
    · rw [if_neg e] at h
      have hin := getM_mem h
      have := h1 _ hin
      simp only at this
      rw [if_neg (by omega), if_neg e, putM_same h2 h]
theorem getM_fold (v : Int) : ∀ (s m : List Bd), Rising m → getM (s.foldl (fun m b => if (getM m b.f0).isSome then m else putM b.f0 b.f1 m) m) v = (getM m v).or (getM s v)
  | [], m, _ => by simp [getM_nil]
  | b :: s, m, h => by
    rw [List.foldl_cons, getM_cons]
    by_cases e : (getM m b.f0).isSome = true
    · rw [if_pos e, getM_fold v s m h]
      by_cases ev : b.f0 = v
      · subst ev
        obtain ⟨t, ht⟩ := Option.isSome_iff_exists.1 e
        rw [ht]; simp
      · rw [if_neg ev]
    · rw [if_neg e, getM_fold v s _ (putM_rising h), getM_put v h]
      have e0 : getM m b.f0 = none := by simpa using e
      by_cases ev : b.f0 = v
      · subst ev; rw [if_pos rfl, if_pos rfl, e0]; simp
      · rw [if_neg ev, if_neg ev]
theorem getM_start (s : List Bd) (v : Int) : getM (startM s) v = getM s v := by
  unfold startM
  rw [getM_fold v s [] List.Pairwise.nil, getM_nil]
  rfl
/-- The binding that a match grows: what is new stands behind. -/
def growB : List Tm → List Tm → List Bd → List Bd
  | t :: p, u :: q, s => growB p q (if isVar t && (getM s t.f1).isNone then s ++ [⟨t.f1, u⟩] else s)
  | _, _, s => s
theorem growB_cons (t u : Tm) (p q : List Tm) (s : List Bd) : growB (t :: p) (u :: q) s = growB p q (if isVar t && (getM s t.f1).isNone then s ++ [⟨t.f1, u⟩] else s) := rfl
theorem growB_keeps {v : Int} {w : Tm} : ∀ (p q : List Tm) (s : List Bd), getM s v = some w → getM (growB p q s) v = some w
  | [], _, _, h => h
  | _ :: _, [], _, h => h
  | t :: p, u :: q, s, h => by
    unfold growB
    refine growB_keeps p q _ ?_
    split
    · rw [getM_app, h]; rfl
    · exact h
open Classical in
theorem stepM_grow : ∀ (p q : List Tm) (s : List Bd), p.length = q.length → stepM p q (startM s) = if p.map (becomeT (growB p q s)) = q then some (startM (growB p q s)) else none
  | [], [], s, _ => by simp [stepM, growB]
  | [], _ :: _, _, h => by simp at h
  | _ :: _, [], _, h => by simp at h
  | t :: p, u :: q, s, h => by
    have hl : p.length = q.length := by simpa using h
    rw [stepM, growB_cons, List.map_cons]
    cases hv : isVar t with
    | false =>
      simp only [Bool.false_eq_true, if_false, Bool.false_and]
      have eb : becomeT (growB p q s) t = t := by unfold becomeT; rw [hv]; rfl
      rw [eb]
      by_cases e : t = u
      · rw [if_pos ((eqT_iff t u).2 e), stepM_grow p q s hl, e]
        simp
      · rw [if_neg (fun h => e ((eqT_iff t u).1 h)), if_neg (fun h => e (by injection h))]
    | true =>
      simp only [if_true, Bool.true_and]
      rw [getM_start]
      cases hg : getM s t.f1 with
      | some was =>
        simp only [Option.isNone_some, Bool.false_eq_true, if_false]
        have eb : becomeT (growB p q s) t = was := by unfold becomeT; rw [hv, growB_keeps p q s hg]; rfl
        rw [eb]
        by_cases e : was = u
        · rw [if_pos ((eqT_iff was u).2 e), putM_same (startM_rising s) (by rw [getM_start, hg, e]), stepM_grow p q s hl, e]
          simp
        · rw [if_neg (fun h => e ((eqT_iff was u).1 h)), if_neg (fun h => e (by injection h))]
      | none =>
        simp only [Option.isNone_none, if_true]
        have es : putM t.f1 u (startM s) = startM (s ++ [⟨t.f1, u⟩]) := by
          rw [startM_snoc, getM_start, hg]
          rfl
        have eg : getM (s ++ [⟨t.f1, u⟩]) t.f1 = some u := by
          rw [getM_app, hg, getM_cons, if_pos rfl]
          rfl
        have eb : becomeT (growB p q (s ++ [⟨t.f1, u⟩])) t = u := by unfold becomeT; rw [hv, growB_keeps p q _ eg]; rfl
        rw [es, stepM_grow p q _ hl, eb]
        simp
end Go.Proofs.Ytnomgmlfagiffaa.T
/- Classes, plainly: what the linked terms stand for; what Unify answers by it. No machine. -/
set_option linter.unusedVariables false
set_option linter.unusedSimpArgs false
namespace Go.Proofs.Ytnomgmlfagiffaa.T
open Go.RowKit Go.Lib Go.Proofs.YtnomgmlfagiffaaW.PrintWords Go.Proofs.Ytnomgmlfagiffaa.Hs
theorem isVar_eq {t : Tm} (h : isVar t = true) : t = ⟨3, t.f1, ⟨#[]⟩⟩ := by
  unfold isVar at h
  simp only [Bool.and_eq_true, decide_eq_true_eq, beq_iff_eq] at h
  obtain ⟨h0, h1, h2⟩ := h
  cases t
  simp only at h0 h2
  subst h0
  congr 1
  exact ba_ext (by rw [h2, toList_data])
theorem rank_var {t : Tm} (h : isVar t = true) : rankT t = t.f1.toNat + 1 := by unfold rankT; rw [if_pos h]
theorem rank_fix {t : Tm} (h : isVar t = false) : rankT t = 0 := by unfold rankT; rw [h]; rfl
/-- Ranks fall along the links. -/
def Dn (C : Cl) : Prop := ∀ t u, C t = some u → u ≠ t → rankT u < rankT t
theorem dn_nil : Dn (fun _ => none) := fun _ _ h => by cases h
theorem topN_more {C : Cl} (hD : Dn C) : ∀ n t, rankT t < n → ∀ k, rankT t < k → topN k C t = topN n C t := by
  intro n
  induction n with
  | zero => intro t h; omega
  | succ n ih =>
    intro t h k hk
    obtain ⟨k, rfl⟩ : ∃ j, k = j + 1 := ⟨k - 1, by omega⟩
    unfold topN
    cases hc : C t with
    | none => rfl
    | some u =>
      simp only
      cases he : eqT u t with
      | true => rfl
      | false =>
        have hne : u ≠ t := fun e => by rw [(eqT_iff u t).2 e] at he; cases he
        have hr := hD t u hc hne
        simp only [Bool.false_eq_true, if_false]
        exact ih u (by omega) k (by omega)
/-- The term that a term's class stands for. -/
noncomputable def rho (C : Cl) (t : Tm) : Tm := (topF C t).1
theorem rho_none {C : Cl} {t : Tm} (h : C t = none) : rho C t = t := by
  unfold rho topF topN
  rw [h]
theorem rho_self {C : Cl} {t : Tm} (h : C t = some t) : rho C t = t := by
  unfold rho topF topN
  rw [h]
  simp only
  rw [if_pos ((eqT_iff t t).2 rfl)]
theorem rho_step {C : Cl} (hD : Dn C) {t u : Tm} (h : C t = some u) : rho C t = rho C u := by
  by_cases hu : u = t
  · rw [hu]
  · have hr := hD t u h hu
    have he : eqT u t = false := by
      cases e : eqT u t with
      | false => rfl
      | true => exact absurd ((eqT_iff u t).1 e) hu
    show (topN (rankT t + 1) C t).1 = (topN (rankT u + 1) C u).1
    rw [topN_more hD (rankT u + 1) u (by omega) (rankT u + 1) (by omega)]
    have : topN (rankT t + 1) C t = topN (rankT t) C u := by
      rw [topN, h]
      simp only [he, Bool.false_eq_true, if_false]
    rw [this, topN_more hD (rankT u + 1) u (by omega) (rankT t) hr]
theorem rank_ind {P : Tm → Prop} (h : ∀ t, (∀ u, rankT u < rankT t → P u) → P t) : ∀ t, P t := by
  have : ∀ n t, rankT t < n → P t := by
    intro n
    induction n with
    | zero => intro t ht; omega
    | succ n ih => intro t ht; exact h t (fun u hu => ih u (by omega))
  exact fun t => this (rankT t + 1) t (by omega)
def RootC (C : Cl) (t : Tm) : Prop := C t = none ∨ C t = some t
theorem rho_rootC {C : Cl} {t : Tm} (h : RootC C t) : rho C t = t := h.elim rho_none rho_self
theorem rho_root {C : Cl} (hD : Dn C) : ∀ t, RootC C (rho C t) := by
  refine rank_ind (fun t ih => ?_)
  cases hc : C t with
  | none => rw [rho_none hc]; exact Or.inl hc
  | some u =>
    by_cases hu : u = t
    · subst hu; rw [rho_self hc]; exact Or.inr hc
    · rw [rho_step hD hc]; exact ih u (hD t u hc hu)
theorem rho_idem {C : Cl} (hD : Dn C) (t : Tm) : rho C (rho C t) = rho C t := rho_rootC (rho_root hD t)
theorem rho_rank {C : Cl} (hD : Dn C) : ∀ t, rankT (rho C t) ≤ rankT t ∧ (rho C t ≠ t → rankT (rho C t) < rankT t) := by
  refine rank_ind (fun t ih => ?_)
  cases hc : C t with
  | none => rw [rho_none hc]; exact ⟨Nat.le_refl _, fun h => absurd rfl h⟩
  | some u =>
    by_cases hu : u = t
    · subst hu; rw [rho_self hc]; exact ⟨Nat.le_refl _, fun h => absurd rfl h⟩
    · have hr := hD t u hc hu
      have h1 := (ih u hr).1
      rw [rho_step hD hc]
      exact ⟨by omega, fun _ => by omega⟩
theorem set_same (C : Cl) (z w : Tm) : C.set z w z = some w := by unfold Cl.set; rw [if_pos rfl]
theorem set_other {C : Cl} {z w t : Tm} (h : t ≠ z) : C.set z w t = C t := by unfold Cl.set; rw [if_neg h]
theorem set_dn {C : Cl} (hD : Dn C) {z w : Tm} (h : w = z ∨ rankT w < rankT z) : Dn (C.set z w) := by
  intro t u hc hne
  by_cases e : t = z
  · subst e
    rw [set_same] at hc
    injection hc with hc
    subst hc
    exact h.elim (fun h => absurd h hne) id
  · rw [set_other e] at hc
    exact hD t u hc hne
/-- A link that the root of itself bears changes nothing. -/
theorem rho_set_self {C : Cl} (hD : Dn C) {z : Tm} (hz : C z = none) : ∀ t, rho (C.set z z) t = rho C t := by
  have hD' : Dn (C.set z z) := set_dn hD (Or.inl rfl)
  refine rank_ind (fun t ih => ?_)
  by_cases e : t = z
  · subst e; rw [rho_self (set_same C t t), rho_none hz]
  · cases hc : C t with
    | none => rw [rho_none hc, rho_none ((set_other e).trans hc)]
    | some u =>
      by_cases hu : u = t
      · subst hu; rw [rho_self hc, rho_self ((set_other e).trans hc)]
      · rw [rho_step hD hc, rho_step hD' ((set_other e).trans hc)]
        exact ih u (hD t u hc hu)
open Classical in
/-- A new link between two roots. -/
theorem rho_link {C : Cl} (hD : Dn C) {z w : Tm} (hz : RootC C z) (hw : RootC C w) (hr : rankT w < rankT z) : ∀ t, rho (C.set z w) t = if rho C t = z then w else rho C t := by
  have hD' : Dn (C.set z w) := set_dn hD (Or.inr hr)
  have hwz : w ≠ z := fun e => by rw [e] at hr; omega
  have hw' : rho (C.set z w) w = w := rho_rootC (by unfold RootC; rw [set_other hwz]; exact hw)
  refine rank_ind (fun t ih => ?_)
  by_cases e : t = z
  · subst e
    rw [rho_step hD' (set_same C t w), hw', rho_rootC hz, if_pos rfl]
  · cases hc : C t with
    | none => rw [rho_none hc, rho_none ((set_other e).trans hc), if_neg e]
    | some u =>
      by_cases hu : u = t
      · subst hu; rw [rho_self hc, rho_self ((set_other e).trans hc), if_neg e]
      · rw [rho_step hD hc, rho_step hD' ((set_other e).trans hc)]
        exact ih u (hD t u hc hu)
theorem topN_map (C : Cl) : ∀ k t, (topN k C t).2 = C ∨ ∃ z, C z = none ∧ (topN k C t).2 = C.set z z := by
  intro k
  induction k with
  | zero => intro t; exact Or.inl rfl
  | succ k ih =>
    intro t
    unfold topN
    cases hc : C t with
    | none => exact Or.inr ⟨t, hc, rfl⟩
    | some u =>
      simp only
      cases he : eqT u t with
      | true => exact Or.inl rfl
      | false => simp only [Bool.false_eq_true, if_false]; exact ih u
theorem topF_same {C : Cl} (hD : Dn C) (t : Tm) : Dn (topF C t).2 ∧ ∀ s, rho (topF C t).2 s = rho C s := by
  rcases topN_map C (rankT t + 1) t with h | ⟨z, hz, h⟩
  · unfold topF; rw [h]; exact ⟨hD, fun _ => rfl⟩
  · unfold topF; rw [h]; exact ⟨set_dn hD (Or.inl rfl), rho_set_self hD hz⟩
theorem root_of {C : Cl} (hD : Dn C) {t : Tm} (h : rho C t = t) : RootC C t := by
  have := rho_root hD t
  rw [h] at this
  exact this
open Classical in
theorem link_true {C C' : Cl} (hD : Dn C) {a b : Tm} (h : linkF C a b = (true, C')) : Dn C' ∧ (((∀ s, rho C' s = rho C s) ∧ rho C a = rho C b) ∨ ∃ z w, z ≠ w ∧ ((z = rho C a ∧ w = rho C b) ∨ (z = rho C b ∧ w = rho C a)) ∧ ∀ s, rho C' s = if rho C s = z then w else rho C s) := by
  obtain ⟨hD1, h1⟩ := topF_same hD a
  obtain ⟨hD2, h2⟩ := topF_same hD1 b
  have hx : (topF C a).1 = rho C a := rfl
  have hy : (topF (topF C a).2 b).1 = rho C b := (h1 b)
  have hs : ∀ s, rho (topF (topF C a).2 b).2 s = rho C s := fun s => (h2 s).trans (h1 s)
  unfold linkF at h
  rw [hx, hy] at h
  generalize (topF (topF C a).2 b).2 = C2 at *
  have rx : RootC C2 (rho C a) := root_of hD2 (by rw [hs]; exact rho_idem hD a)
  have ry : RootC C2 (rho C b) := root_of hD2 (by rw [hs]; exact rho_idem hD b)
  have key : ∀ z w, RootC C2 z → RootC C2 w → rankT w < rankT z → Dn (C2.set z w) ∧ ∀ s, rho (C2.set z w) s = if rho C s = z then w else rho C s := fun z w hz hw hr =>
    ⟨set_dn hD2 (Or.inr hr), fun s => by rw [rho_link hD2 hz hw hr s, hs]⟩
  generalize rho C a = x at *
  generalize rho C b = y at *
  unfold linkR at h
  cases he : eqT x y with
  | true =>
    rw [if_pos he] at h
    injection h with _ h
    subst h
    exact ⟨hD2, Or.inl ⟨hs, (eqT_iff x y).1 he⟩⟩
  | false =>
    have hne : x ≠ y := fun e => by rw [(eqT_iff x y).2 e] at he; cases he
    rw [he] at h
    simp only [Bool.false_eq_true, if_false] at h
    cases hvx : isVar x with
    | false =>
      cases hvy : isVar y with
      | false => rw [hvx, hvy] at h; simp at h
      | true =>
        rw [hvx, hvy] at h
        simp at h
        subst h
        obtain ⟨k1, k2⟩ := key y x ry rx (by rw [rank_fix hvx, rank_var hvy]; omega)
        exact ⟨k1, Or.inr ⟨y, x, fun e => hne e.symm, Or.inr ⟨rfl, rfl⟩, k2⟩⟩
    | true =>
      cases hvy : isVar y with
      | false =>
        rw [hvx, hvy] at h
        simp at h
        subst h
        obtain ⟨k1, k2⟩ := key x y rx ry (by rw [rank_fix hvy, rank_var hvx]; omega)
        exact ⟨k1, Or.inr ⟨x, y, hne, Or.inl ⟨rfl, rfl⟩, k2⟩⟩
      | true =>
        rw [hvx, hvy] at h
        have px := isVar_parts hvx
        have py := isVar_parts hvy
        have hn : x.f1 ≠ y.f1 := fun e => hne (by rw [isVar_eq hvx, isVar_eq hvy, e])
        by_cases hl : x.f1 < y.f1
        · simp [hl] at h
          subst h
          obtain ⟨k1, k2⟩ := key y x ry rx (by rw [rank_var hvx, rank_var hvy]; omega)
          exact ⟨k1, Or.inr ⟨y, x, fun e => hne e.symm, Or.inr ⟨rfl, rfl⟩, k2⟩⟩
        · simp [hl] at h
          subst h
          obtain ⟨k1, k2⟩ := key x y rx ry (by rw [rank_var hvx, rank_var hvy]; omega)
          exact ⟨k1, Or.inr ⟨x, y, hne, Or.inl ⟨rfl, rfl⟩, k2⟩⟩
theorem link_false {C : Cl} (hD : Dn C) {a b : Tm} (h : (linkF C a b).1 = false) : isVar (rho C a) = false ∧ isVar (rho C b) = false ∧ rho C a ≠ rho C b := by
  obtain ⟨hD1, h1⟩ := topF_same hD a
  have hx : (topF C a).1 = rho C a := rfl
  have hy : (topF (topF C a).2 b).1 = rho C b := (h1 b)
  unfold linkF at h
  rw [hx, hy] at h
  generalize rho C a = x at *
  generalize rho C b = y at *
  unfold linkR at h
  cases he : eqT x y with
  | true => rw [if_pos he] at h; cases h
  | false =>
    have hne : x ≠ y := fun e => by rw [(eqT_iff x y).2 e] at he; cases he
    rw [he] at h
    simp only [Bool.false_eq_true, if_false] at h
    cases hvx : isVar x with
    | false =>
      cases hvy : isVar y with
      | false => exact ⟨rfl, rfl, hne⟩
      | true => rw [hvx, hvy] at h; simp at h
    | true =>
      cases hvy : isVar y with
      | false => rw [hvx, hvy] at h; simp at h
      | true => rw [hvx, hvy] at h; by_cases hl : x.f1 < y.f1 <;> simp [hl] at h
/-- What is linked, step by step. -/
inductive Ln (R : Tm → Tm → Prop) : Tm → Tm → Prop
  | rel {t u : Tm} (h : R t u) : Ln R t u
  | refl (t : Tm) : Ln R t t
  | symm {t u : Tm} (h : Ln R t u) : Ln R u t
  | trans {t u v : Tm} (h : Ln R t u) (h2 : Ln R u v) : Ln R t v
theorem Ln.mono {R S : Tm → Tm → Prop} (hs : ∀ t u, R t u → Ln S t u) {t u : Tm} (h : Ln R t u) : Ln S t u := by
  induction h with
  | rel h => exact hs _ _ h
  | refl t => exact .refl t
  | symm _ ih => exact .symm ih
  | trans _ _ i1 i2 => exact .trans i1 i2
theorem Ln.by_ {R : Tm → Tm → Prop} {f : Tm → Tm} (hs : ∀ t u, R t u → f t = f u) {t u : Tm} (h : Ln R t u) : f t = f u := by
  induction h with
  | rel h => exact hs _ _ h
  | refl t => rfl
  | symm _ ih => exact ih.symm
  | trans _ _ i1 i2 => exact i1.trans i2
theorem link_rel {C C' : Cl} {R : Tm → Tm → Prop} (hD : Dn C) (hR : ∀ s u, rho C s = rho C u ↔ Ln R s u) {a b : Tm} (h : linkF C a b = (true, C')) : Dn C' ∧ ∀ s u, rho C' s = rho C' u ↔ Ln (fun t u => R t u ∨ (t = a ∧ u = b)) s u := by
  classical
  obtain ⟨hD', hc⟩ := link_true hD h
  refine ⟨hD', fun s u => ⟨fun e => ?_, fun e => e.by_ (f := rho C') ?_⟩⟩
  · have hm : ∀ {t v}, Ln R t v → Ln (fun t u => R t u ∨ (t = a ∧ u = b)) t v := fun h => h.mono (fun t u h => .rel (Or.inl h))
    have hab : Ln (fun t u => R t u ∨ (t = a ∧ u = b)) a b := .rel (Or.inr ⟨rfl, rfl⟩)
    have ho : ∀ t, Ln R t (rho C t) := fun t => (hR t (rho C t)).1 (rho_idem hD t).symm
    have hn : ∀ t, Ln (fun t u => R t u ∨ (t = a ∧ u = b)) t (rho C' t) := by
      intro t
      rcases hc with ⟨h1, _⟩ | ⟨z, w, hzw, hp, h1⟩
      · rw [h1]; exact hm (ho t)
      · rw [h1]
        by_cases ez : rho C t = z
        · rw [if_pos ez]
          have h2 := hm (ho t)
          rw [ez] at h2
          refine h2.trans ?_
          rcases hp with ⟨rfl, rfl⟩ | ⟨rfl, rfl⟩
          · exact (hm (ho a)).symm.trans (hab.trans (hm (ho b)))
          · exact (hm (ho b)).symm.trans (hab.symm.trans (hm (ho a)))
        · rw [if_neg ez]; exact hm (ho t)
    have h3 := hn s
    rw [e] at h3
    exact h3.trans (hn u).symm
  · have hf : ∀ t v, rho C t = rho C v → rho C' t = rho C' v := fun t v e => by
      rcases hc with ⟨h1, _⟩ | ⟨z, w, hzw, hp, h1⟩
      · rw [h1, h1, e]
      · rw [h1, h1, e]
    rintro t v (hr | ⟨rfl, rfl⟩)
    · exact hf t v ((hR t v).2 (.rel hr))
    · rcases hc with ⟨h1, h2⟩ | ⟨z, w, hzw, hp, h1⟩
      · rw [h1, h1, h2]
      · rw [h1, h1]
        rcases hp with ⟨rfl, rfl⟩ | ⟨rfl, rfl⟩
        · rw [if_pos rfl, if_neg (fun e => hzw e.symm)]
        · rw [if_pos rfl, if_neg (fun e => hzw e.symm)]
theorem ln_zip {R : Tm → Tm → Prop} {a b : Tm} {P Q : List Tm} {s u : Tm} : Ln (fun t u => (R t u ∨ (t = a ∧ u = b)) ∨ (t, u) ∈ P.zip Q) s u ↔ Ln (fun t u => R t u ∨ (t, u) ∈ (a :: P).zip (b :: Q)) s u := by
  have : (fun t u => (R t u ∨ (t = a ∧ u = b)) ∨ (t, u) ∈ P.zip Q) = (fun t u => R t u ∨ (t, u) ∈ (a :: P).zip (b :: Q)) := by
    funext t u
    apply propext
    rw [List.zip_cons_cons, List.mem_cons, Prod.mk.injEq, or_assoc]
  rw [this]
theorem linkAll_rel : ∀ (P Q : List Tm) (C : Cl) (R : Tm → Tm → Prop), P.length = Q.length → Dn C → (∀ s u, rho C s = rho C u ↔ Ln R s u) →
    (∀ C', linkAll P Q C = some C' → Dn C' ∧ ∀ s u, rho C' s = rho C' u ↔ Ln (fun t u => R t u ∨ (t, u) ∈ P.zip Q) s u) ∧
    (linkAll P Q C = none → ∃ s u, isVar s = false ∧ isVar u = false ∧ s ≠ u ∧ Ln (fun t u => R t u ∨ (t, u) ∈ P.zip Q) s u)
  | [], _, C, R, _, hD, hR => by
    refine ⟨fun C' h => ?_, fun h => by simp [linkAll] at h⟩
    simp only [linkAll, Option.some.injEq] at h
    subst h
    refine ⟨hD, fun s u => (hR s u).trans ?_⟩
    simp
  | _ :: _, [], _, _, h, _, _ => by simp at h
  | a :: P, b :: Q, C, R, hl, hD, hR => by
    cases hk : linkF C a b with
    | mk ok C1 =>
      cases ok with
      | false =>
        refine ⟨fun C' h => ?_, fun _ => ?_⟩
        · unfold linkAll at h
          rw [hk] at h
          simp at h
        · obtain ⟨h1, h2, h3⟩ := link_false hD (a := a) (b := b) (by rw [hk])
          refine ⟨_, _, h1, h2, h3, ?_⟩
          have ho : ∀ t, Ln R t (rho C t) := fun t => (hR t (rho C t)).1 (rho_idem hD t).symm
          have hm : ∀ {t v}, Ln R t v → Ln (fun t u => R t u ∨ (t, u) ∈ (a :: P).zip (b :: Q)) t v := fun h => h.mono (fun t u h => .rel (Or.inl h))
          exact (hm (ho a)).symm.trans (Ln.trans (.rel (Or.inr (by simp))) (hm (ho b)))
      | true =>
        obtain ⟨hD1, h1⟩ := link_rel hD hR hk
        obtain ⟨i1, i2⟩ := linkAll_rel P Q C1 _ (by simpa using hl) hD1 h1
        have e : linkAll (a :: P) (b :: Q) C = linkAll P Q C1 := by
          rw [linkAll, hk]
          simp
        rw [e]
        refine ⟨fun C' h => ?_, fun h => ?_⟩
        · obtain ⟨k1, k2⟩ := i1 C' h
          exact ⟨k1, fun s u => (k2 s u).trans ln_zip⟩
        · obtain ⟨s, u, k1, k2, k3, k4⟩ := i2 h
          exact ⟨s, u, k1, k2, k3, ln_zip.1 k4⟩
theorem byAll_rel : ∀ (L : List Tm) (C : Cl), Dn C →
    (∀ C', byAll L C = some C' → Dn C' ∧ (∀ s, rho C' s = rho C s) ∧ ∀ t ∈ L, isVar t = true → isVar (rho C t) = true ∨ isPrin (rho C t) = true) ∧
    (byAll L C = none → ∃ t ∈ L, isVar t = true ∧ isVar (rho C t) = false ∧ isPrin (rho C t) = false)
  | [], C, hD => by
    refine ⟨fun C' h => ?_, fun h => by simp [byAll] at h⟩
    simp only [byAll, Option.some.injEq] at h
    subst h
    exact ⟨hD, fun _ => rfl, fun t ht => by simp at ht⟩
  | t :: L, C, hD => by
    obtain ⟨hD1, h1⟩ := topF_same hD t
    obtain ⟨i1, i2⟩ := byAll_rel L (topF C t).2 hD1
    have hx : (topF C t).1 = rho C t := rfl
    unfold byAll
    rw [hx]
    cases hb : (isVar t && (!isVar (rho C t) && !isPrin (rho C t))) with
    | true =>
      rw [if_pos rfl]
      simp only [Bool.and_eq_true, Bool.not_eq_true'] at hb
      exact ⟨fun C' h => (by cases h), fun _ => ⟨t, by simp, hb.1, hb.2.1, hb.2.2⟩⟩
    | false =>
      rw [if_neg (by simp)]
      refine ⟨fun C' h => ?_, fun h => ?_⟩
      · obtain ⟨k1, k2, k3⟩ := i1 C' h
        refine ⟨k1, fun s => (k2 s).trans (h1 s), fun v hv hvv => ?_⟩
        rcases List.mem_cons.1 hv with rfl | hv
        · rw [hvv] at hb
          cases h4 : isVar (rho C v) with
          | true => exact Or.inl rfl
          | false =>
            cases h5 : isPrin (rho C v) with
            | true => exact Or.inr rfl
            | false => rw [h4, h5] at hb; simp at hb
        · have := k3 v hv hvv
          rw [h1] at this
          exact this
      · obtain ⟨v, hv, h2, h3, h4⟩ := i2 h
        rw [h1] at h3 h4
        exact ⟨v, by simp [hv], h2, h3, h4⟩
theorem finU_get (r : Tm → Tm) (v : Int) : ∀ (L : List Tm) (C : Cl) (m : List Bd), Dn C → (∀ s, rho C s = r s) → Rising m →
    Rising (finU L C m) ∧ getM (finU L C m) v = if ((L.any fun t => isVar t && (t.f1 == v)) && !eqT (r ⟨3, v, ⟨#[]⟩⟩) ⟨3, v, ⟨#[]⟩⟩) = true then some (r ⟨3, v, ⟨#[]⟩⟩) else getM m v
  | [], C, m, _, _, hm => ⟨hm, by simp [finU]⟩
  | t :: L, C, m, hD, hr, hm => by
    obtain ⟨hD1, h1⟩ := topF_same hD t
    have hx : (topF C t).1 = r t := (hr t)
    unfold finU
    rw [hx]
    by_cases hb : (isVar t && !eqT (r t) t) = true
    · rw [if_pos hb]
      obtain ⟨k1, k2⟩ := finU_get r v L (topF C t).2 (putM t.f1 (r t) m) hD1 (fun s => (h1 s).trans (hr s)) (putM_rising hm)
      refine ⟨k1, ?_⟩
      rw [k2, getM_put v hm, List.any_cons]
      simp only [Bool.and_eq_true, Bool.not_eq_true'] at hb
      have ht := isVar_eq hb.1
      by_cases hv : t.f1 = v
      · subst hv
        rw [← ht, hb.1, hb.2]
        simp
      · have : (t.f1 == v) = false := by simpa using hv
        rw [this, if_neg hv]
        simp
    · rw [if_neg hb]
      obtain ⟨k1, k2⟩ := finU_get r v L (topF C t).2 m hD1 (fun s => (h1 s).trans (hr s)) hm
      refine ⟨k1, ?_⟩
      rw [k2, List.any_cons]
      by_cases hv : isVar t = true ∧ t.f1 = v
      · obtain ⟨h2, rfl⟩ := hv
        have ht := isVar_eq h2
        have he : eqT (r t) t = true := by
          cases e : eqT (r t) t with
          | true => rfl
          | false => rw [h2, e] at hb; simp at hb
        rw [← ht, he]
        simp
      · have : (isVar t && (t.f1 == v)) = false := by
          cases h2 : isVar t with
          | false => rfl
          | true => simp only [Bool.true_and, beq_eq_false_iff_ne]; exact fun e => hv ⟨h2, e⟩
        rw [this]
        simp
theorem unify_none' {n0 n1 : ByteArray} {p q : List Tm} {x y : Tm} (hn : n0.toList = n1.toList) (hl : p.length = q.length) (h : linkAll (x :: p) (y :: q) (fun _ => none) = none) : unifyL n0 p n1 q x y = ([], false) := by
  unfold unifyL
  rw [if_neg (fun h => h.elim (fun h => h hn) (fun h => h hl)), h]
theorem unify_by' {n0 n1 : ByteArray} {p q : List Tm} {x y : Tm} {C : Cl} (hn : n0.toList = n1.toList) (hl : p.length = q.length) (h : linkAll (x :: p) (y :: q) (fun _ => none) = some C) (hb : byAll [x, y] C = none) : unifyL n0 p n1 q x y = ([], false) := by
  unfold unifyL
  rw [if_neg (fun h => h.elim (fun h => h hn) (fun h => h hl)), h]
  simp only
  rw [hb]
theorem unify_some' {n0 n1 : ByteArray} {p q : List Tm} {x y : Tm} {C C' : Cl} (hn : n0.toList = n1.toList) (hl : p.length = q.length) (h : linkAll (x :: p) (y :: q) (fun _ => none) = some C) (hb : byAll [x, y] C = some C') : unifyL n0 p n1 q x y = (finU ((x :: p) ++ (y :: q)) C' [], true) := by
  unfold unifyL
  rw [if_neg (fun h => h.elim (fun h => h hn) (fun h => h hl)), h]
  simp only
  rw [hb]
/-- Unify's answer, by what is linked. -/
structure Uni (P Q : List Tm) (r : Tm → Tm) (m : List Bd) : Prop where
  same : ∀ s u, r s = r u ↔ Ln (fun t u => (t, u) ∈ P.zip Q) s u
  idem : ∀ s, r (r s) = r s
  rank : ∀ s, rankT (r s) ≤ rankT s ∧ (r s ≠ s → rankT (r s) < rankT s)
  ris : Rising m
  get : ∀ v, getM m v = if (((P ++ Q).any fun t => isVar t && (t.f1 == v)) && !eqT (r ⟨3, v, ⟨#[]⟩⟩) ⟨3, v, ⟨#[]⟩⟩) = true then some (r ⟨3, v, ⟨#[]⟩⟩) else none
theorem Uni.fix {P Q : List Tm} {r : Tm → Tm} {m : List Bd} (h : Uni P Q r m) {t : Tm} (ht : isVar t = false) : r t = t := by
  by_cases e : r t = t
  · exact e
  · have := (h.rank t).2 e
    rw [rank_fix ht] at this
    omega
theorem unifyL_spec (n0 n1 : ByteArray) (p q : List Tm) (x y : Tm) :
    (unifyL n0 p n1 q x y = ([], false) ∧ (n0.toList ≠ n1.toList ∨ p.length ≠ q.length ∨
      (∃ s u, isVar s = false ∧ isVar u = false ∧ s ≠ u ∧ Ln (fun t u => (t, u) ∈ (x :: p).zip (y :: q)) s u) ∨
      (∃ t, (t = x ∨ t = y) ∧ isVar t = true ∧ ∃ c, isVar c = false ∧ isPrin c = false ∧ Ln (fun t u => (t, u) ∈ (x :: p).zip (y :: q)) t c))) ∨
    (∃ m r, unifyL n0 p n1 q x y = (m, true) ∧ n0.toList = n1.toList ∧ p.length = q.length ∧ Uni (x :: p) (y :: q) r m ∧ ∀ t, (t = x ∨ t = y) → isVar t = true → isVar (r t) = true ∨ isPrin (r t) = true) := by
  by_cases hn : n0.toList = n1.toList
  · by_cases hl : p.length = q.length
    · have e0 : (fun t u => (False ∨ (t, u) ∈ (x :: p).zip (y :: q))) = fun t u => (t, u) ∈ (x :: p).zip (y :: q) := by funext t u; simp
      obtain ⟨i1, i2⟩ := linkAll_rel (x :: p) (y :: q) (fun _ => none) (fun _ _ => False) (by simp [hl]) dn_nil (fun s u => by
        rw [rho_none rfl, rho_none rfl]
        refine ⟨fun e => (by rw [e]; exact .refl u), fun h => h.by_ (f := id) (fun _ _ h => h.elim)⟩)
      rw [e0] at i1 i2
      cases hk : linkAll (x :: p) (y :: q) (fun _ => none) with
      | none => exact Or.inl ⟨unify_none' hn hl hk, Or.inr (Or.inr (Or.inl (i2 hk)))⟩
      | some C =>
        obtain ⟨hD, hs⟩ := i1 C hk
        obtain ⟨j1, j2⟩ := byAll_rel [x, y] C hD
        cases hb : byAll [x, y] C with
        | none =>
          obtain ⟨t, ht, h1, h2, h3⟩ := j2 hb
          refine Or.inl ⟨unify_by' hn hl hk hb, Or.inr (Or.inr (Or.inr ⟨t, by simpa using ht, h1, rho C t, h2, h3, (hs _ _).1 (rho_idem hD t).symm⟩))⟩
        | some C1 =>
          obtain ⟨hD1, h1, h2⟩ := j1 C1 hb
          refine Or.inr ⟨_, rho C, unify_some' hn hl hk hb, hn, hl, ⟨hs, rho_idem hD, rho_rank hD, ?_, fun v => ?_⟩, fun t ht hv => h2 t (by simpa using ht) hv⟩
          · exact (finU_get (rho C) 0 _ C1 [] hD1 h1 List.Pairwise.nil).1
          · exact (finU_get (rho C) v _ C1 [] hD1 h1 List.Pairwise.nil).2
    · refine Or.inl ⟨?_, Or.inr (Or.inl hl)⟩
      unfold unifyL
      rw [if_pos (Or.inr hl)]
  · refine Or.inl ⟨?_, Or.inl hn⟩
    unfold unifyL
    rw [if_pos (Or.inl hn)]
/-- A binding that has all variables' values makes what they stand for. -/
theorem Uni.become {P Q : List Tm} {r : Tm → Tm} {m : List Bd} (h : Uni P Q r m) {t : Tm} (ht : t ∈ P ∨ t ∈ Q) : becomeT m t = r t := by
  unfold becomeT
  cases hv : isVar t with
  | false => simp only [Bool.false_eq_true, if_false]; exact (h.fix hv).symm
  | true =>
    simp only [if_true]
    have e := isVar_eq hv
    rw [h.get, ← e]
    have ha : ((P ++ Q).any fun s => isVar s && (s.f1 == t.f1)) = true := List.any_eq_true.2 ⟨t, by simpa using ht, by simp [hv]⟩
    rw [ha]
    cases he : eqT (r t) t with
    | true => simp [(eqT_iff _ _).1 he]
    | false => simp
theorem rising_ext {m n : List Bd} (hm : Rising m) (hn : Rising n) (h : ∀ v, getM m v = getM n v) : m = n := by
  refine rising_eq hm hn (fun b => ⟨fun hb => ?_, fun hb => ?_⟩)
  · have := rising_getM hm hb
    rw [h] at this
    exact getM_mem this
  · have := rising_getM hn hb
    rw [← h] at this
    exact getM_mem this
/-- Whatever makes the places one makes one of what is linked. -/
theorem ln_sub {P Q : List Tm} {f : Tm → Tm} (h : P.map f = Q.map f) {s u : Tm} (hl : Ln (fun t u => (t, u) ∈ P.zip Q) s u) : f s = f u := by
  refine hl.by_ (fun t u hm => ?_)
  obtain ⟨i, hi, e⟩ := List.mem_iff_getElem.1 hm
  rw [List.getElem_zip] at e
  injection e with e1 e2
  have := congrArg (fun l => l[i]?) h
  simp only [List.getElem?_map] at this
  rw [List.length_zip] at hi
  rw [List.getElem?_eq_getElem (by omega), List.getElem?_eq_getElem (by omega), e1, e2] at this
  simpa using this
theorem become_fix (s : List Bd) {t : Tm} (h : isVar t = false) : becomeT s t = t := by unfold becomeT; rw [h]; rfl
theorem uni_map {P Q : List Tm} {r : Tm → Tm} (hl : P.length = Q.length) (h : ∀ s u, r s = r u ↔ Ln (fun t u => (t, u) ∈ P.zip Q) s u) : P.map r = Q.map r := by
  refine List.ext_getElem (by simp [hl]) (fun i h1 h2 => ?_)
  simp only [List.length_map] at h1 h2
  simp only [List.getElem_map]
  refine (h _ _).2 (.rel ?_)
  have : (P.zip Q)[i]'(by rw [List.length_zip]; omega) = (P[i], Q[i]) := List.getElem_zip
  rw [← this]
  exact List.getElem_mem _
end Go.Proofs.Ytnomgmlfagiffaa.T
