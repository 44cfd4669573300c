/- TOr: texts of this claim, laid together. -/
import Derived.Test.YtnomgmlfagiffaaM4Or
/- By a program of this session (wip/tools/squeeze.py), out of the translation: hearsaylaw02_TermOrder, its contract. -/
namespace Go.Proofs.Ytnomgmlfagiffaa.T
open Go.RowKit Go.Proofs.YtnomgmlfagiffaaW.PrintWords Go.Proofs.YtnomgmlfagiffaaW.PrintLast Go.Proofs.YtnomgmlfagiffaaW.PrintMore
attribute [local go_sem] max2_int min2_int max_two min_two max_three min_three max_four min_four   -- for this text's walks alone
set_option linter.unusedVariables false
set_option linter.unusedSimpArgs false

attribute [local go_sem high] eqA23
set_option maxHeartbeats 8000000 in
set_option maxRecDepth 100000 in
theorem hearsaylaw02_TermOrder.calls (k : Nat) (a0_0 : Int) (a0_1 : Int) (a0_2 : ByteArray) (a0_3 : ByteArray) (A0_4 : Option Addr) (c0_4 : Nat) (l0_4 : List (S23)) (a1_0 : Int) (a1_1 : Int) (a1_2 : ByteArray) (a1_3 : ByteArray) (A1_4 : Option Addr) (c1_4 : Nat) (l1_4 : List (S23)) (a2_0 : Int) (a2_1 : Int) (a2_2 : ByteArray) (a2_3 : ByteArray) (A2_4 : Option Addr) (c2_4 : Nat) (l2_4 : List (S23)) (r : Bool) (w : World) (hr0_4 : Kd.C k23 w A0_4 l0_4.length l0_4) (hc0_4 : l0_4.length ≤ c0_4) (hr1_4 : Kd.C k23 w A1_4 l1_4.length l1_4) (hc1_4 : l1_4.length ≤ c1_4) (hr2_4 : Kd.C k23 w A2_4 l2_4.length l2_4) (hc2_4 : l2_4.length ≤ c2_4) (h : hearsaylaw02_TermOrder.f k a0_0 a0_1 a0_2 a0_3 l0_4 a1_0 a1_1 a1_2 a1_3 l1_4 a2_0 a2_1 a2_2 a2_3 l2_4 = some r) :
 Calls Try.prog 4 #[.agg #[.int .i64 a0_0, .int .i64 a0_1, .string a0_2, .string a0_3, .slice A0_4 l0_4.length c0_4], .agg #[.int .i64 a1_0, .int .i64 a1_1, .string a1_2, .string a1_3, .slice A1_4 l1_4.length c1_4], .agg #[.int .i64 a2_0, .int .i64 a2_1, .string a2_2, .string a2_3, .slice A2_4 l2_4.length c2_4]] w fun e w' => e = .returned (.bool r) ∧ Below w.heap.size w w' := by
 have hu30 := Try.underlying30
 have hu23 := Try.underlying23
 have HR0_4 := Aside0.mk hr0_4
 have HC0_4 := Aside0.mk hc0_4
 clear hr0_4 hc0_4
 have HR1_4 := Aside0.mk hr1_4
 have HC1_4 := Aside0.mk hc1_4
 clear hr1_4 hc1_4
 have HR2_4 := Aside0.mk hr2_4
 have HC2_4 := Aside0.mk hc2_4
 clear hr2_4 hc2_4
 have HB := Aside0.mk (Below.refl w.heap.size w)
 have H : ((term_CompareAtoms.f k a0_0 a0_1 a0_2 a0_3 l0_4 a1_0 a1_1 a1_2 a1_3 l1_4).bind fun t153 => ((term_CompareAtoms.f k a1_0 a1_1 a1_2 a1_3 l1_4 a2_0 a2_1 a2_2 a2_3 l2_4).bind fun t154 => ((term_CompareAtoms.f k a0_0 a0_1 a0_2 a0_3 l0_4 a2_0 a2_1 a2_2 a2_3 l2_4).bind fun t155 => (if t153 < (-1) then (hearsaylaw02_TermOrder.j0 k t153 t154 t155 true a0_0 a0_1 a0_2 a0_3 l0_4 a1_0 a1_1 a1_2 a1_3 l1_4 a2_0 a2_1 a2_2 a2_3 l2_4) else (if t153 > 1 then (hearsaylaw02_TermOrder.j0 k t153 t154 t155 true a0_0 a0_1 a0_2 a0_3 l0_4 a1_0 a1_1 a1_2 a1_3 l1_4 a2_0 a2_1 a2_2 a2_3 l2_4) else ((term_CompareAtoms.f k a1_0 a1_1 a1_2 a1_3 l1_4 a0_0 a0_1 a0_2 a0_3 l0_4).bind fun t156 => (if t156 = (wrap64 (-t153)) then ((hearsaylaw02_same.f k a0_0 a0_1 a0_2 a0_3 l0_4 a1_0 a1_1 a1_2 a1_3 l1_4).bind fun t157 => (hearsaylaw02_TermOrder.j0 k t153 t154 t155 ((t153 == 0) != t157) a0_0 a0_1 a0_2 a0_3 l0_4 a1_0 a1_1 a1_2 a1_3 l1_4 a2_0 a2_1 a2_2 a2_3 l2_4)) else (hearsaylaw02_TermOrder.j0 k t153 t154 t155 true a0_0 a0_1 a0_2 a0_3 l0_4 a1_0 a1_1 a1_2 a1_3 l1_4 a2_0 a2_1 a2_2 a2_3 l2_4)))))))) = some r := h
 clear h
 replace H := Option.bind_eq_some_iff.mp H
 obtain ⟨t153, A40, H⟩ := H
 replace H : ((term_CompareAtoms.f k a1_0 a1_1 a1_2 a1_3 l1_4 a2_0 a2_1 a2_2 a2_3 l2_4).bind fun t154 => ((term_CompareAtoms.f k a0_0 a0_1 a0_2 a0_3 l0_4 a2_0 a2_1 a2_2 a2_3 l2_4).bind fun t155 => (if t153 < (-1) then (hearsaylaw02_TermOrder.j0 k t153 t154 t155 true a0_0 a0_1 a0_2 a0_3 l0_4 a1_0 a1_1 a1_2 a1_3 l1_4 a2_0 a2_1 a2_2 a2_3 l2_4) else (if t153 > 1 then (hearsaylaw02_TermOrder.j0 k t153 t154 t155 true a0_0 a0_1 a0_2 a0_3 l0_4 a1_0 a1_1 a1_2 a1_3 l1_4 a2_0 a2_1 a2_2 a2_3 l2_4) else ((term_CompareAtoms.f k a1_0 a1_1 a1_2 a1_3 l1_4 a0_0 a0_1 a0_2 a0_3 l0_4).bind fun t156 => (if t156 = (wrap64 (-t153)) then ((hearsaylaw02_same.f k a0_0 a0_1 a0_2 a0_3 l0_4 a1_0 a1_1 a1_2 a1_3 l1_4).bind fun t157 => (hearsaylaw02_TermOrder.j0 k t153 t154 t155 ((t153 == 0) != t157) a0_0 a0_1 a0_2 a0_3 l0_4 a1_0 a1_1 a1_2 a1_3 l1_4 a2_0 a2_1 a2_2 a2_3 l2_4)) else (hearsaylaw02_TermOrder.j0 k t153 t154 t155 true a0_0 a0_1 a0_2 a0_3 l0_4 a1_0 a1_1 a1_2 a1_3 l1_4 a2_0 a2_1 a2_2 a2_3 l2_4))))))) = some r := H
 have A4 := Aside0.mk A40
 clear A40
 replace H := Option.bind_eq_some_iff.mp H
 obtain ⟨t154, A50, H⟩ := H
 replace H : ((term_CompareAtoms.f k a0_0 a0_1 a0_2 a0_3 l0_4 a2_0 a2_1 a2_2 a2_3 l2_4).bind fun t155 => (if t153 < (-1) then (hearsaylaw02_TermOrder.j0 k t153 t154 t155 true a0_0 a0_1 a0_2 a0_3 l0_4 a1_0 a1_1 a1_2 a1_3 l1_4 a2_0 a2_1 a2_2 a2_3 l2_4) else (if t153 > 1 then (hearsaylaw02_TermOrder.j0 k t153 t154 t155 true a0_0 a0_1 a0_2 a0_3 l0_4 a1_0 a1_1 a1_2 a1_3 l1_4 a2_0 a2_1 a2_2 a2_3 l2_4) else ((term_CompareAtoms.f k a1_0 a1_1 a1_2 a1_3 l1_4 a0_0 a0_1 a0_2 a0_3 l0_4).bind fun t156 => (if t156 = (wrap64 (-t153)) then ((hearsaylaw02_same.f k a0_0 a0_1 a0_2 a0_3 l0_4 a1_0 a1_1 a1_2 a1_3 l1_4).bind fun t157 => (hearsaylaw02_TermOrder.j0 k t153 t154 t155 ((t153 == 0) != t157) a0_0 a0_1 a0_2 a0_3 l0_4 a1_0 a1_1 a1_2 a1_3 l1_4 a2_0 a2_1 a2_2 a2_3 l2_4)) else (hearsaylaw02_TermOrder.j0 k t153 t154 t155 true a0_0 a0_1 a0_2 a0_3 l0_4 a1_0 a1_1 a1_2 a1_3 l1_4 a2_0 a2_1 a2_2 a2_3 l2_4)))))) = some r := H
 have A5 := Aside0.mk A50
 clear A50
 replace H := Option.bind_eq_some_iff.mp H
 obtain ⟨t155, A60, H⟩ := H
 replace H : (if t153 < (-1) then (hearsaylaw02_TermOrder.j0 k t153 t154 t155 true a0_0 a0_1 a0_2 a0_3 l0_4 a1_0 a1_1 a1_2 a1_3 l1_4 a2_0 a2_1 a2_2 a2_3 l2_4) else (if t153 > 1 then (hearsaylaw02_TermOrder.j0 k t153 t154 t155 true a0_0 a0_1 a0_2 a0_3 l0_4 a1_0 a1_1 a1_2 a1_3 l1_4 a2_0 a2_1 a2_2 a2_3 l2_4) else ((term_CompareAtoms.f k a1_0 a1_1 a1_2 a1_3 l1_4 a0_0 a0_1 a0_2 a0_3 l0_4).bind fun t156 => (if t156 = (wrap64 (-t153)) then ((hearsaylaw02_same.f k a0_0 a0_1 a0_2 a0_3 l0_4 a1_0 a1_1 a1_2 a1_3 l1_4).bind fun t157 => (hearsaylaw02_TermOrder.j0 k t153 t154 t155 ((t153 == 0) != t157) a0_0 a0_1 a0_2 a0_3 l0_4 a1_0 a1_1 a1_2 a1_3 l1_4 a2_0 a2_1 a2_2 a2_3 l2_4)) else (hearsaylaw02_TermOrder.j0 k t153 t154 t155 true a0_0 a0_1 a0_2 a0_3 l0_4 a1_0 a1_1 a1_2 a1_3 l1_4 a2_0 a2_1 a2_2 a2_3 l2_4))))) = some r := H
 have A6 := Aside0.mk A60
 clear A60
 have HC7 := Aside0.mk H
 clear H
 go_enter Try.func4, Try.ntmps4
 go_upto_region 4 with (first | ((with_reducible refine gate_dst (N := 3) rfl ?_); refine box_event ?hg (N := 3) ?hd (cs := #[.int .i64 a0_0, .int .i64 a0_1, .string a0_2, .string a0_3, .slice A0_4 l0_4.length c0_4]) (t := 30) ?hr ?_; (case hd => rfl); (case hg => rfl); (case hr => first | (go_simp; done) | (go_simp; rfl)); intro gb150 hg w8 hbox hb; have n0_ := Aside0.mk (below_step (by repeat (first | (with_reducible first | exact HB.out | apply qf | apply qn | apply qe) | exact HB.out)) hb); have n1_ := Aside0.mk (hbox); have n2_ := Aside0.mk ((by rw [hg]; exact (below_size (by repeat (first | (with_reducible first | exact HB.out | apply qf | apply qn | apply qe) | exact HB.out))) : w.heap.size ≤ gb150)); have n3_ := Aside0.mk ((by rw [hg]; exact (below_size (by repeat (first | (with_reducible first | exact HB.out | apply qf | apply qn | apply qe) | exact HB.out))) : w.heap.size ≤ gb150)); clear HB; have HB := n0_; have BK150 := n1_; have GW150 := n2_; have GE150 := n3_; clear n0_ n1_ n2_ n3_; clear hb hbox hg) | ((with_reducible refine gate_dst (N := 4) rfl ?_); refine box_event ?hg (N := 4) ?hd (cs := #[.int .i64 a1_0, .int .i64 a1_1, .string a1_2, .string a1_3, .slice A1_4 l1_4.length c1_4]) (t := 30) ?hr ?_; (case hd => rfl); (case hg => rfl); (case hr => first | (go_simp; done) | (go_simp; rfl)); intro gb151 hg w9 hbox hb; have n0_ := Aside0.mk (qw (g := gb150) (o := .cells #[.int .i64 a0_0, .int .i64 a0_1, .string a0_2, .string a0_3, .slice A0_4 l0_4.length c0_4] 30 (0, 0)) (by (with_reducible repeat (first | refine qa ?_ _ | refine qb ?_ | refine qc ?_ _)); exact BK150.out) hb); have n1_ := Aside0.mk (below_step (by repeat (first | (with_reducible first | exact HB.out | apply qf | apply qn | apply qe | refine qd ?_ GE150.out) | exact HB.out)) hb); have n2_ := Aside0.mk (hbox); have n3_ := Aside0.mk ((by rw [hg]; exact (below_size (by repeat (first | (with_reducible first | exact HB.out | apply qf | apply qn | apply qe | refine qd ?_ GE150.out) | exact HB.out))) : w.heap.size ≤ gb151)); have n4_ := Aside0.mk ((by rw [hg]; exact (below_size (by repeat (first | (with_reducible first | exact HB.out | apply qf | apply qn | apply qe | refine qd ?_ GE150.out) | exact HB.out))) : w.heap.size ≤ gb151)); have n5_ := Aside0.mk ((by rw [hg]; exact Nat.ne_of_lt (blk_lt (g := gb150) (o := .cells #[.int .i64 a0_0, .int .i64 a0_1, .string a0_2, .string a0_3, .slice A0_4 l0_4.length c0_4] 30 (0, 0)) (by (with_reducible repeat (first | refine qa ?_ _ | refine qb ?_ | refine qc ?_ _)); exact BK150.out)) : gb150 ≠ gb151)); have n6_ := Aside0.mk ((by rw [hg]; exact Nat.ne_of_gt (blk_lt (g := gb150) (o := .cells #[.int .i64 a0_0, .int .i64 a0_1, .string a0_2, .string a0_3, .slice A0_4 l0_4.length c0_4] 30 (0, 0)) (by (with_reducible repeat (first | refine qa ?_ _ | refine qb ?_ | refine qc ?_ _)); exact BK150.out)) : gb151 ≠ gb150)); clear BK150; clear HB; have BK150 := n0_; have HB := n1_; have BK151 := n2_; have GW151 := n3_; have GE151 := n4_; have NB150_151 := n5_; have NB151_150 := n6_; clear n0_ n1_ n2_ n3_ n4_ n5_ n6_; clear hb hbox hg) | ((with_reducible refine gate_dst (N := 5) rfl ?_); refine box_event ?hg (N := 5) ?hd (cs := #[.int .i64 a2_0, .int .i64 a2_1, .string a2_2, .string a2_3, .slice A2_4 l2_4.length c2_4]) (t := 30) ?hr ?_; (case hd => rfl); (case hg => rfl); (case hr => first | (go_simp; done) | (go_simp; rfl)); intro gb152 hg w10 hbox hb; have n0_ := Aside0.mk (qw (g := gb150) (o := .cells #[.int .i64 a0_0, .int .i64 a0_1, .string a0_2, .string a0_3, .slice A0_4 l0_4.length c0_4] 30 (0, 0)) (by (with_reducible repeat (first | refine qa ?_ _ | refine qb ?_ | refine qc ?_ _)); exact BK150.out) hb); have n1_ := Aside0.mk (qw (g := gb151) (o := .cells #[.int .i64 a1_0, .int .i64 a1_1, .string a1_2, .string a1_3, .slice A1_4 l1_4.length c1_4] 30 (0, 0)) (by (with_reducible repeat (first | refine qa ?_ _ | refine qb ?_ | refine qc ?_ _)); exact BK151.out) hb); have n2_ := Aside0.mk (below_step (by repeat (first | (with_reducible first | exact HB.out | apply qf | apply qn | apply qe | refine qd ?_ GE150.out | refine qd ?_ GE151.out) | exact HB.out)) hb); have n3_ := Aside0.mk (hbox); have n4_ := Aside0.mk ((by rw [hg]; exact (below_size (by repeat (first | (with_reducible first | exact HB.out | apply qf | apply qn | apply qe | refine qd ?_ GE150.out | refine qd ?_ GE151.out) | exact HB.out))) : w.heap.size ≤ gb152)); have n5_ := Aside0.mk ((by rw [hg]; exact (below_size (by repeat (first | (with_reducible first | exact HB.out | apply qf | apply qn | apply qe | refine qd ?_ GE150.out | refine qd ?_ GE151.out) | exact HB.out))) : w.heap.size ≤ gb152)); have n6_ := Aside0.mk ((by rw [hg]; exact Nat.ne_of_lt (blk_lt (g := gb150) (o := .cells #[.int .i64 a0_0, .int .i64 a0_1, .string a0_2, .string a0_3, .slice A0_4 l0_4.length c0_4] 30 (0, 0)) (by (with_reducible repeat (first | refine qa ?_ _ | refine qb ?_ | refine qc ?_ _)); exact BK150.out)) : gb150 ≠ gb152)); have n7_ := Aside0.mk ((by rw [hg]; exact Nat.ne_of_gt (blk_lt (g := gb150) (o := .cells #[.int .i64 a0_0, .int .i64 a0_1, .string a0_2, .string a0_3, .slice A0_4 l0_4.length c0_4] 30 (0, 0)) (by (with_reducible repeat (first | refine qa ?_ _ | refine qb ?_ | refine qc ?_ _)); exact BK150.out)) : gb152 ≠ gb150)); have n8_ := Aside0.mk ((by rw [hg]; exact Nat.ne_of_lt (blk_lt (g := gb151) (o := .cells #[.int .i64 a1_0, .int .i64 a1_1, .string a1_2, .string a1_3, .slice A1_4 l1_4.length c1_4] 30 (0, 0)) (by (with_reducible repeat (first | refine qa ?_ _ | refine qb ?_ | refine qc ?_ _)); exact BK151.out)) : gb151 ≠ gb152)); have n9_ := Aside0.mk ((by rw [hg]; exact Nat.ne_of_gt (blk_lt (g := gb151) (o := .cells #[.int .i64 a1_0, .int .i64 a1_1, .string a1_2, .string a1_3, .slice A1_4 l1_4.length c1_4] 30 (0, 0)) (by (with_reducible repeat (first | refine qa ?_ _ | refine qb ?_ | refine qc ?_ _)); exact BK151.out)) : gb152 ≠ gb151)); clear BK150; clear BK151; clear HB; have BK150 := n0_; have BK151 := n1_; have HB := n2_; have BK152 := n3_; have GW152 := n4_; have GE152 := n5_; have NB150_152 := n6_; have NB152_150 := n7_; have NB151_152 := n8_; have NB152_151 := n9_; clear n0_ n1_ n2_ n3_ n4_ n5_ n6_ n7_ n8_ n9_; clear hb hbox hg; have hnb11 := NB150_151.out; have hnc11 := NB151_150.out; have hnb12 := NB150_152.out; have hnc12 := NB152_150.out; have hcz13_0 : w10.cell? ⟨gb150, 0, none⟩ = some (.int .i64 a0_0) := (qh BK150.out 0).trans rfl; have hcz13_1 : w10.cell? ⟨gb150, 1, none⟩ = some (.int .i64 a0_1) := (qh BK150.out 1).trans rfl; have hcz13_2 : w10.cell? ⟨gb150, 2, none⟩ = some (.string a0_2) := (qh BK150.out 2).trans rfl; have hcz13_3 : w10.cell? ⟨gb150, 3, none⟩ = some (.string a0_3) := (qh BK150.out 3).trans rfl; have hcz13_4 : w10.cell? ⟨gb150, 4, none⟩ = some (.slice A0_4 l0_4.length c0_4) := (qh BK150.out 4).trans rfl; have hfz13_0 := qg BK150.out 0; have hfz13_1 := qg BK150.out 1; have hfz13_2 := qg BK150.out 2; have hfz13_3 := qg BK150.out 3; have hfz13_4 := qg BK150.out 4; have hnb14 := NB151_152.out; have hnc14 := NB152_151.out; have hcz15_0 : w10.cell? ⟨gb151, 0, none⟩ = some (.int .i64 a1_0) := (qh BK151.out 0).trans rfl; have hcz15_1 : w10.cell? ⟨gb151, 1, none⟩ = some (.int .i64 a1_1) := (qh BK151.out 1).trans rfl; have hcz15_2 : w10.cell? ⟨gb151, 2, none⟩ = some (.string a1_2) := (qh BK151.out 2).trans rfl; have hcz15_3 : w10.cell? ⟨gb151, 3, none⟩ = some (.string a1_3) := (qh BK151.out 3).trans rfl; have hcz15_4 : w10.cell? ⟨gb151, 4, none⟩ = some (.slice A1_4 l1_4.length c1_4) := (qh BK151.out 4).trans rfl; have hfz15_0 := qg BK151.out 0; have hfz15_1 := qg BK151.out 1; have hfz15_2 := qg BK151.out 2; have hfz15_3 := qg BK151.out 3; have hfz15_4 := qg BK151.out 4) | ((with_reducible refine gate_callee (f := 15) rfl ?_); refine goesL_ (some 17) rfl rfl Try.func15 (by as_aux_lemma => kernel_rfl) rfl #[.agg #[.int .i64 a0_0, .int .i64 a0_1, .string a0_2, .string a0_3, .slice A0_4 l0_4.length c0_4], .agg #[.int .i64 a1_0, .int .i64 a1_1, .string a1_2, .string a1_3, .slice A1_4 l1_4.length c1_4]] rfl (by (try simp only [List.map_toArray, List.map_cons, List.map_nil]); first | done | rfl | (simp only [List.length_drop, List.length_take]; rfl)) ?_; (with_reducible refine (term_CompareAtoms.calls k a0_0 a0_1 a0_2 a0_3 _ _ l0_4 a1_0 a1_1 a1_2 a1_3 _ _ l1_4 t153 _ ?side1 ?side2 ?side3 ?side4 A4.out).mono ?_); (case side1 => repeat (first | exact (Kd.C_below HR0_4.out HB.out) | (with_reducible refine Kd.C_alloc ?_ _) | (with_reducible refine Kd.C_drewN ?_ _) | (with_reducible refine Kd.C_drew ?_))); (case side2 => exact HC0_4.out); (case side3 => repeat (first | exact (Kd.C_below HR1_4.out HB.out) | (with_reducible refine Kd.C_alloc ?_ _) | (with_reducible refine Kd.C_drewN ?_ _) | (with_reducible refine Kd.C_drew ?_))); (case side4 => exact HC1_4.out); rintro e w16 ⟨rfl, hb⟩; refine ⟨_, rfl, ?_⟩; have n0_ := Aside0.mk (qw (g := gb150) (o := .cells #[.int .i64 a0_0, .int .i64 a0_1, .string a0_2, .string a0_3, .slice A0_4 l0_4.length c0_4] 30 (0, 0)) (by (with_reducible repeat (first | refine qa ?_ _ | refine qb ?_ | refine qc ?_ _)); exact BK150.out) hb); have n1_ := Aside0.mk (qw (g := gb151) (o := .cells #[.int .i64 a1_0, .int .i64 a1_1, .string a1_2, .string a1_3, .slice A1_4 l1_4.length c1_4] 30 (0, 0)) (by (with_reducible repeat (first | refine qa ?_ _ | refine qb ?_ | refine qc ?_ _)); exact BK151.out) hb); have n2_ := Aside0.mk (qw (g := gb152) (o := .cells #[.int .i64 a2_0, .int .i64 a2_1, .string a2_2, .string a2_3, .slice A2_4 l2_4.length c2_4] 30 (0, 0)) (by (with_reducible repeat (first | refine qa ?_ _ | refine qb ?_ | refine qc ?_ _)); exact BK152.out) hb); have n3_ := Aside0.mk (below_step (by repeat (first | (with_reducible first | exact HB.out | apply qf | apply qn | apply qe | refine qd ?_ GE150.out | refine qd ?_ GE151.out | refine qd ?_ GE152.out) | exact HB.out)) hb); clear BK150; clear BK151; clear BK152; clear HB; have BK150 := n0_; have BK151 := n1_; have BK152 := n2_; have HB := n3_; clear n0_ n1_ n2_ n3_; (try clear hb); (try clear hb2); (try clear hk); (try clear hi); have hcz17_0 : w16.cell? ⟨gb151, 0, none⟩ = some (.int .i64 a1_0) := (qh BK151.out 0).trans rfl; have hcz17_1 : w16.cell? ⟨gb151, 1, none⟩ = some (.int .i64 a1_1) := (qh BK151.out 1).trans rfl; have hcz17_2 : w16.cell? ⟨gb151, 2, none⟩ = some (.string a1_2) := (qh BK151.out 2).trans rfl; have hcz17_3 : w16.cell? ⟨gb151, 3, none⟩ = some (.string a1_3) := (qh BK151.out 3).trans rfl; have hcz17_4 : w16.cell? ⟨gb151, 4, none⟩ = some (.slice A1_4 l1_4.length c1_4) := (qh BK151.out 4).trans rfl; have hfz17_0 := qg BK151.out 0; have hfz17_1 := qg BK151.out 1; have hfz17_2 := qg BK151.out 2; have hfz17_3 := qg BK151.out 3; have hfz17_4 := qg BK151.out 4; have hcz18_0 : w16.cell? ⟨gb152, 0, none⟩ = some (.int .i64 a2_0) := (qh BK152.out 0).trans rfl; have hcz18_1 : w16.cell? ⟨gb152, 1, none⟩ = some (.int .i64 a2_1) := (qh BK152.out 1).trans rfl; have hcz18_2 : w16.cell? ⟨gb152, 2, none⟩ = some (.string a2_2) := (qh BK152.out 2).trans rfl; have hcz18_3 : w16.cell? ⟨gb152, 3, none⟩ = some (.string a2_3) := (qh BK152.out 3).trans rfl; have hcz18_4 : w16.cell? ⟨gb152, 4, none⟩ = some (.slice A2_4 l2_4.length c2_4) := (qh BK152.out 4).trans rfl; have hfz18_0 := qg BK152.out 0; have hfz18_1 := qg BK152.out 1; have hfz18_2 := qg BK152.out 2; have hfz18_3 := qg BK152.out 3; have hfz18_4 := qg BK152.out 4) | ((with_reducible refine gate_callee (f := 15) rfl ?_); refine goesL_ (some 20) rfl rfl Try.func15 (by as_aux_lemma => kernel_rfl) rfl #[.agg #[.int .i64 a1_0, .int .i64 a1_1, .string a1_2, .string a1_3, .slice A1_4 l1_4.length c1_4], .agg #[.int .i64 a2_0, .int .i64 a2_1, .string a2_2, .string a2_3, .slice A2_4 l2_4.length c2_4]] rfl (by (try simp only [List.map_toArray, List.map_cons, List.map_nil]); first | done | rfl | (simp only [List.length_drop, List.length_take]; rfl)) ?_; (with_reducible refine (term_CompareAtoms.calls k a1_0 a1_1 a1_2 a1_3 _ _ l1_4 a2_0 a2_1 a2_2 a2_3 _ _ l2_4 t154 _ ?side1 ?side2 ?side3 ?side4 A5.out).mono ?_); (case side1 => repeat (first | exact (Kd.C_below HR1_4.out HB.out) | (with_reducible refine Kd.C_alloc ?_ _) | (with_reducible refine Kd.C_drewN ?_ _) | (with_reducible refine Kd.C_drew ?_))); (case side2 => exact HC1_4.out); (case side3 => repeat (first | exact (Kd.C_below HR2_4.out HB.out) | (with_reducible refine Kd.C_alloc ?_ _) | (with_reducible refine Kd.C_drewN ?_ _) | (with_reducible refine Kd.C_drew ?_))); (case side4 => exact HC2_4.out); rintro e w19 ⟨rfl, hb⟩; refine ⟨_, rfl, ?_⟩; have n0_ := Aside0.mk (qw (g := gb150) (o := .cells #[.int .i64 a0_0, .int .i64 a0_1, .string a0_2, .string a0_3, .slice A0_4 l0_4.length c0_4] 30 (0, 0)) (by (with_reducible repeat (first | refine qa ?_ _ | refine qb ?_ | refine qc ?_ _)); exact BK150.out) hb); have n1_ := Aside0.mk (qw (g := gb151) (o := .cells #[.int .i64 a1_0, .int .i64 a1_1, .string a1_2, .string a1_3, .slice A1_4 l1_4.length c1_4] 30 (0, 0)) (by (with_reducible repeat (first | refine qa ?_ _ | refine qb ?_ | refine qc ?_ _)); exact BK151.out) hb); have n2_ := Aside0.mk (qw (g := gb152) (o := .cells #[.int .i64 a2_0, .int .i64 a2_1, .string a2_2, .string a2_3, .slice A2_4 l2_4.length c2_4] 30 (0, 0)) (by (with_reducible repeat (first | refine qa ?_ _ | refine qb ?_ | refine qc ?_ _)); exact BK152.out) hb); have n3_ := Aside0.mk (below_step (by repeat (first | (with_reducible first | exact HB.out | apply qf | apply qn | apply qe | refine qd ?_ GE150.out | refine qd ?_ GE151.out | refine qd ?_ GE152.out) | exact HB.out)) hb); clear BK150; clear BK151; clear BK152; clear HB; have BK150 := n0_; have BK151 := n1_; have BK152 := n2_; have HB := n3_; clear n0_ n1_ n2_ n3_; (try clear hb); (try clear hb2); (try clear hk); (try clear hi); have hcz20_0 : w19.cell? ⟨gb150, 0, none⟩ = some (.int .i64 a0_0) := (qh BK150.out 0).trans rfl; have hcz20_1 : w19.cell? ⟨gb150, 1, none⟩ = some (.int .i64 a0_1) := (qh BK150.out 1).trans rfl; have hcz20_2 : w19.cell? ⟨gb150, 2, none⟩ = some (.string a0_2) := (qh BK150.out 2).trans rfl; have hcz20_3 : w19.cell? ⟨gb150, 3, none⟩ = some (.string a0_3) := (qh BK150.out 3).trans rfl; have hcz20_4 : w19.cell? ⟨gb150, 4, none⟩ = some (.slice A0_4 l0_4.length c0_4) := (qh BK150.out 4).trans rfl; have hfz20_0 := qg BK150.out 0; have hfz20_1 := qg BK150.out 1; have hfz20_2 := qg BK150.out 2; have hfz20_3 := qg BK150.out 3; have hfz20_4 := qg BK150.out 4; have hcz21_0 : w19.cell? ⟨gb152, 0, none⟩ = some (.int .i64 a2_0) := (qh BK152.out 0).trans rfl; have hcz21_1 : w19.cell? ⟨gb152, 1, none⟩ = some (.int .i64 a2_1) := (qh BK152.out 1).trans rfl; have hcz21_2 : w19.cell? ⟨gb152, 2, none⟩ = some (.string a2_2) := (qh BK152.out 2).trans rfl; have hcz21_3 : w19.cell? ⟨gb152, 3, none⟩ = some (.string a2_3) := (qh BK152.out 3).trans rfl; have hcz21_4 : w19.cell? ⟨gb152, 4, none⟩ = some (.slice A2_4 l2_4.length c2_4) := (qh BK152.out 4).trans rfl; have hfz21_0 := qg BK152.out 0; have hfz21_1 := qg BK152.out 1; have hfz21_2 := qg BK152.out 2; have hfz21_3 := qg BK152.out 3; have hfz21_4 := qg BK152.out 4) | ((with_reducible refine gate_callee (f := 15) rfl ?_); refine goesL_ (some 23) rfl rfl Try.func15 (by as_aux_lemma => kernel_rfl) rfl #[.agg #[.int .i64 a0_0, .int .i64 a0_1, .string a0_2, .string a0_3, .slice A0_4 l0_4.length c0_4], .agg #[.int .i64 a2_0, .int .i64 a2_1, .string a2_2, .string a2_3, .slice A2_4 l2_4.length c2_4]] rfl (by (try simp only [List.map_toArray, List.map_cons, List.map_nil]); first | done | rfl | (simp only [List.length_drop, List.length_take]; rfl)) ?_; (with_reducible refine (term_CompareAtoms.calls k a0_0 a0_1 a0_2 a0_3 _ _ l0_4 a2_0 a2_1 a2_2 a2_3 _ _ l2_4 t155 _ ?side1 ?side2 ?side3 ?side4 A6.out).mono ?_); (case side1 => repeat (first | exact (Kd.C_below HR0_4.out HB.out) | (with_reducible refine Kd.C_alloc ?_ _) | (with_reducible refine Kd.C_drewN ?_ _) | (with_reducible refine Kd.C_drew ?_))); (case side2 => exact HC0_4.out); (case side3 => repeat (first | exact (Kd.C_below HR2_4.out HB.out) | (with_reducible refine Kd.C_alloc ?_ _) | (with_reducible refine Kd.C_drewN ?_ _) | (with_reducible refine Kd.C_drew ?_))); (case side4 => exact HC2_4.out); rintro e w22 ⟨rfl, hb⟩; refine ⟨_, rfl, ?_⟩; have n0_ := Aside0.mk (qw (g := gb150) (o := .cells #[.int .i64 a0_0, .int .i64 a0_1, .string a0_2, .string a0_3, .slice A0_4 l0_4.length c0_4] 30 (0, 0)) (by (with_reducible repeat (first | refine qa ?_ _ | refine qb ?_ | refine qc ?_ _)); exact BK150.out) hb); have n1_ := Aside0.mk (qw (g := gb151) (o := .cells #[.int .i64 a1_0, .int .i64 a1_1, .string a1_2, .string a1_3, .slice A1_4 l1_4.length c1_4] 30 (0, 0)) (by (with_reducible repeat (first | refine qa ?_ _ | refine qb ?_ | refine qc ?_ _)); exact BK151.out) hb); have n2_ := Aside0.mk (qw (g := gb152) (o := .cells #[.int .i64 a2_0, .int .i64 a2_1, .string a2_2, .string a2_3, .slice A2_4 l2_4.length c2_4] 30 (0, 0)) (by (with_reducible repeat (first | refine qa ?_ _ | refine qb ?_ | refine qc ?_ _)); exact BK152.out) hb); have n3_ := Aside0.mk (below_step (by repeat (first | (with_reducible first | exact HB.out | apply qf | apply qn | apply qe | refine qd ?_ GE150.out | refine qd ?_ GE151.out | refine qd ?_ GE152.out) | exact HB.out)) hb); clear BK150; clear BK151; clear BK152; clear HB; have BK150 := n0_; have BK151 := n1_; have BK152 := n2_; have HB := n3_; clear n0_ n1_ n2_ n3_; (try clear hb); (try clear hb2); (try clear hk); (try clear hi)))
 (try simp only [Act.put, List.setIfInBounds_toArray, List.set_cons_zero, List.set_cons_succ])
 go_cut [45] (fun v45 wc => ∃ (kq : Nat) (x45_6 : Bool), v45 = .bool x45_6 ∧ Aside0 (hearsaylaw02_TermOrder.j0 kq t153 t154 t155 x45_6 a0_0 a0_1 a0_2 a0_3 l0_4 a1_0 a1_1 a1_2 a1_3 l1_4 a2_0 a2_1 a2_2 a2_3 l2_4 = some r) ∧ Aside0 (kq ≤ k) ∧ Aside0 (wc.heap[gb150]? = some (.cells #[.int .i64 a0_0, .int .i64 a0_1, .string a0_2, .string a0_3, (.slice A0_4 l0_4.length c0_4)] 30 (0, 0))) ∧ Aside0 (wc.heap[gb151]? = some (.cells #[.int .i64 a1_0, .int .i64 a1_1, .string a1_2, .string a1_3, (.slice A1_4 l1_4.length c1_4)] 30 (0, 0))) ∧ Aside0 (wc.heap[gb152]? = some (.cells #[.int .i64 a2_0, .int .i64 a2_1, .string a2_2, .string a2_3, (.slice A2_4 l2_4.length c2_4)] 30 (0, 0))) ∧ Aside0 (Below w.heap.size w wc))
 case first =>
  as_aux_lemma =>
   have H := HC7.out
   clear HC7
   by_cases c23 : t153 < (-1)
   ·
    rw [if_pos c23] at H
    have c23b0 : decide (t153 < (-1)) = true := decide_eq_true c23
    clear c23
    (first | rw [c23b0] | (simp only [i64_w, i32_w]; rw [c23b0]) | skip)
    have H' := Aside0.mk H
    clear H
    go_wp2
    go_meet
    exact ⟨_, (true), (by first | rfl | (simp; done) | (simp [*]; done)), H', ⟨by first | omega | exact Nat.le_refl _⟩, ⟨by (with_reducible repeat (first | refine qa ?_ _ | refine qb ?_ | refine qc ?_ _)); exact BK150.out⟩, ⟨by (with_reducible repeat (first | refine qa ?_ _ | refine qb ?_ | refine qc ?_ _)); exact BK151.out⟩, ⟨by (with_reducible repeat (first | refine qa ?_ _ | refine qb ?_ | refine qc ?_ _)); exact BK152.out⟩, ⟨by repeat (first | (with_reducible first | exact HB.out | apply qf | apply qn | apply qe | refine qd ?_ GE150.out | refine qd ?_ GE151.out | refine qd ?_ GE152.out) | exact HB.out)⟩⟩
   rw [if_neg c23] at H
   have c23b0 : decide (t153 < (-1)) = false := decide_eq_false c23
   clear c23
   (first | rw [c23b0] | (simp only [i64_w, i32_w]; rw [c23b0]) | skip)
   by_cases c24 : t153 > 1
   ·
    rw [if_pos c24] at H
    have c24b0 : decide (1 < t153) = true := decide_eq_true c24
    clear c24
    have H' := Aside0.mk H
    clear H
    go_wp2
    go_meet
    exact ⟨_, (true), (by first | rfl | (simp; done) | (simp [*]; done)), H', ⟨by first | omega | exact Nat.le_refl _⟩, ⟨by (with_reducible repeat (first | refine qa ?_ _ | refine qb ?_ | refine qc ?_ _)); exact BK150.out⟩, ⟨by (with_reducible repeat (first | refine qa ?_ _ | refine qb ?_ | refine qc ?_ _)); exact BK151.out⟩, ⟨by (with_reducible repeat (first | refine qa ?_ _ | refine qb ?_ | refine qc ?_ _)); exact BK152.out⟩, ⟨by repeat (first | (with_reducible first | exact HB.out | apply qf | apply qn | apply qe | refine qd ?_ GE150.out | refine qd ?_ GE151.out | refine qd ?_ GE152.out) | exact HB.out)⟩⟩
   rw [if_neg c24] at H
   have c24b0 : decide (1 < t153) = false := decide_eq_false c24
   clear c24
   replace H := Option.bind_eq_some_iff.mp H
   obtain ⟨t156, A250, H⟩ := H
   replace H : (if t156 = (wrap64 (-t153)) then ((hearsaylaw02_same.f k a0_0 a0_1 a0_2 a0_3 l0_4 a1_0 a1_1 a1_2 a1_3 l1_4).bind fun t157 => (hearsaylaw02_TermOrder.j0 k t153 t154 t155 ((t153 == 0) != t157) a0_0 a0_1 a0_2 a0_3 l0_4 a1_0 a1_1 a1_2 a1_3 l1_4 a2_0 a2_1 a2_2 a2_3 l2_4)) else (hearsaylaw02_TermOrder.j0 k t153 t154 t155 true a0_0 a0_1 a0_2 a0_3 l0_4 a1_0 a1_1 a1_2 a1_3 l1_4 a2_0 a2_1 a2_2 a2_3 l2_4)) = some r := H
   have A25 := Aside0.mk A250
   clear A250
   by_cases c26 : t156 = (wrap64 (-t153))
   rotate_left
   ·
    rw [if_neg c26] at H
    have c26b0 : (t156 == (wrap64 (-t153))) = false := beq_eq_false_iff_ne.mpr c26
    have c26b1 : (t156 != (wrap64 (-t153))) = true := bne_iff_ne.mpr c26
    have H' := Aside0.mk H
    clear H
    have hnb37 := NB151_150.out
    have hnc37 := NB150_151.out
    have hnb38 := NB151_152.out
    have hnc38 := NB152_151.out
    have hcz39_0 : w22.cell? ⟨gb151, 0, none⟩ = some (.int .i64 a1_0) := (qh BK151.out 0).trans rfl
    have hcz39_1 : w22.cell? ⟨gb151, 1, none⟩ = some (.int .i64 a1_1) := (qh BK151.out 1).trans rfl
    have hcz39_2 : w22.cell? ⟨gb151, 2, none⟩ = some (.string a1_2) := (qh BK151.out 2).trans rfl
    have hcz39_3 : w22.cell? ⟨gb151, 3, none⟩ = some (.string a1_3) := (qh BK151.out 3).trans rfl
    have hcz39_4 : w22.cell? ⟨gb151, 4, none⟩ = some (.slice A1_4 l1_4.length c1_4) := (qh BK151.out 4).trans rfl
    have hfz39_0 := qg BK151.out 0
    have hfz39_1 := qg BK151.out 1
    have hfz39_2 := qg BK151.out 2
    have hfz39_3 := qg BK151.out 3
    have hfz39_4 := qg BK151.out 4
    have hnb40 := NB150_152.out
    have hnc40 := NB152_150.out
    have hcz41_0 : w22.cell? ⟨gb150, 0, none⟩ = some (.int .i64 a0_0) := (qh BK150.out 0).trans rfl
    have hcz41_1 : w22.cell? ⟨gb150, 1, none⟩ = some (.int .i64 a0_1) := (qh BK150.out 1).trans rfl
    have hcz41_2 : w22.cell? ⟨gb150, 2, none⟩ = some (.string a0_2) := (qh BK150.out 2).trans rfl
    have hcz41_3 : w22.cell? ⟨gb150, 3, none⟩ = some (.string a0_3) := (qh BK150.out 3).trans rfl
    have hcz41_4 : w22.cell? ⟨gb150, 4, none⟩ = some (.slice A0_4 l0_4.length c0_4) := (qh BK150.out 4).trans rfl
    have hfz41_0 := qg BK150.out 0
    have hfz41_1 := qg BK150.out 1
    have hfz41_2 := qg BK150.out 2
    have hfz41_3 := qg BK150.out 3
    have hfz41_4 := qg BK150.out 4
    go_wp2_with (first | (go_at_call 15; (with_reducible refine (term_CompareAtoms.calls k a1_0 a1_1 a1_2 a1_3 _ _ l1_4 a0_0 a0_1 a0_2 a0_3 _ _ l0_4 t156 _ ?side1 ?side2 ?side3 ?side4 A25.out).mono ?_); (case side1 => repeat (first | exact (Kd.C_below HR1_4.out HB.out) | (with_reducible refine Kd.C_alloc ?_ _) | (with_reducible refine Kd.C_drewN ?_ _) | (with_reducible refine Kd.C_drew ?_))); (case side2 => exact HC1_4.out); (case side3 => repeat (first | exact (Kd.C_below HR0_4.out HB.out) | (with_reducible refine Kd.C_alloc ?_ _) | (with_reducible refine Kd.C_drewN ?_ _) | (with_reducible refine Kd.C_drew ?_))); (case side4 => exact HC0_4.out); rintro e w42 ⟨rfl, hb⟩; have n0_ := Aside0.mk (qw (g := gb150) (o := .cells #[.int .i64 a0_0, .int .i64 a0_1, .string a0_2, .string a0_3, .slice A0_4 l0_4.length c0_4] 30 (0, 0)) (by (with_reducible repeat (first | refine qa ?_ _ | refine qb ?_ | refine qc ?_ _)); exact BK150.out) hb); have n1_ := Aside0.mk (qw (g := gb151) (o := .cells #[.int .i64 a1_0, .int .i64 a1_1, .string a1_2, .string a1_3, .slice A1_4 l1_4.length c1_4] 30 (0, 0)) (by (with_reducible repeat (first | refine qa ?_ _ | refine qb ?_ | refine qc ?_ _)); exact BK151.out) hb); have n2_ := Aside0.mk (qw (g := gb152) (o := .cells #[.int .i64 a2_0, .int .i64 a2_1, .string a2_2, .string a2_3, .slice A2_4 l2_4.length c2_4] 30 (0, 0)) (by (with_reducible repeat (first | refine qa ?_ _ | refine qb ?_ | refine qc ?_ _)); exact BK152.out) hb); have n3_ := Aside0.mk (below_step (by repeat (first | (with_reducible first | exact HB.out | apply qf | apply qn | apply qe | refine qd ?_ GE150.out | refine qd ?_ GE151.out | refine qd ?_ GE152.out) | exact HB.out)) hb); clear BK150; clear BK151; clear BK152; clear HB; have BK150 := n0_; have BK151 := n1_; have BK152 := n2_; have HB := n3_; clear n0_ n1_ n2_ n3_; (try clear hb); (try clear hb2); (try clear hk); (try clear hi)))
    go_meet
    exact ⟨_, (true), (by first | rfl | (simp; done) | (simp [*]; done)), H', ⟨by first | omega | exact Nat.le_refl _⟩, ⟨by (with_reducible repeat (first | refine qa ?_ _ | refine qb ?_ | refine qc ?_ _)); exact BK150.out⟩, ⟨by (with_reducible repeat (first | refine qa ?_ _ | refine qb ?_ | refine qc ?_ _)); exact BK151.out⟩, ⟨by (with_reducible repeat (first | refine qa ?_ _ | refine qb ?_ | refine qc ?_ _)); exact BK152.out⟩, ⟨by repeat (first | (with_reducible first | exact HB.out | apply qf | apply qn | apply qe | refine qd ?_ GE150.out | refine qd ?_ GE151.out | refine qd ?_ GE152.out) | exact HB.out)⟩⟩
   rw [if_pos c26] at H
   have c26b0 : (t156 == (wrap64 (-t153))) = true := beq_iff_eq.mpr c26
   have c26b1 : (t156 != (wrap64 (-t153))) = false := bne_eq_false_iff_eq.mpr c26
   clear c26
   replace H := Option.bind_eq_some_iff.mp H
   obtain ⟨t157, A270, H⟩ := H
   replace H : (hearsaylaw02_TermOrder.j0 k t153 t154 t155 ((t153 == 0) != t157) a0_0 a0_1 a0_2 a0_3 l0_4 a1_0 a1_1 a1_2 a1_3 l1_4 a2_0 a2_1 a2_2 a2_3 l2_4) = some r := H
   have A27 := Aside0.mk A270
   clear A270
   have H' := Aside0.mk H
   clear H
   have hnb28 := NB151_150.out
   have hnc28 := NB150_151.out
   have hnb29 := NB151_152.out
   have hnc29 := NB152_151.out
   have hcz30_0 : w22.cell? ⟨gb151, 0, none⟩ = some (.int .i64 a1_0) := (qh BK151.out 0).trans rfl
   have hcz30_1 : w22.cell? ⟨gb151, 1, none⟩ = some (.int .i64 a1_1) := (qh BK151.out 1).trans rfl
   have hcz30_2 : w22.cell? ⟨gb151, 2, none⟩ = some (.string a1_2) := (qh BK151.out 2).trans rfl
   have hcz30_3 : w22.cell? ⟨gb151, 3, none⟩ = some (.string a1_3) := (qh BK151.out 3).trans rfl
   have hcz30_4 : w22.cell? ⟨gb151, 4, none⟩ = some (.slice A1_4 l1_4.length c1_4) := (qh BK151.out 4).trans rfl
   have hfz30_0 := qg BK151.out 0
   have hfz30_1 := qg BK151.out 1
   have hfz30_2 := qg BK151.out 2
   have hfz30_3 := qg BK151.out 3
   have hfz30_4 := qg BK151.out 4
   have hnb31 := NB150_152.out
   have hnc31 := NB152_150.out
   have hcz32_0 : w22.cell? ⟨gb150, 0, none⟩ = some (.int .i64 a0_0) := (qh BK150.out 0).trans rfl
   have hcz32_1 : w22.cell? ⟨gb150, 1, none⟩ = some (.int .i64 a0_1) := (qh BK150.out 1).trans rfl
   have hcz32_2 : w22.cell? ⟨gb150, 2, none⟩ = some (.string a0_2) := (qh BK150.out 2).trans rfl
   have hcz32_3 : w22.cell? ⟨gb150, 3, none⟩ = some (.string a0_3) := (qh BK150.out 3).trans rfl
   have hcz32_4 : w22.cell? ⟨gb150, 4, none⟩ = some (.slice A0_4 l0_4.length c0_4) := (qh BK150.out 4).trans rfl
   have hfz32_0 := qg BK150.out 0
   have hfz32_1 := qg BK150.out 1
   have hfz32_2 := qg BK150.out 2
   have hfz32_3 := qg BK150.out 3
   have hfz32_4 := qg BK150.out 4
   go_wp2_with (first | (go_at_call 15; (with_reducible refine (term_CompareAtoms.calls k a1_0 a1_1 a1_2 a1_3 _ _ l1_4 a0_0 a0_1 a0_2 a0_3 _ _ l0_4 t156 _ ?side1 ?side2 ?side3 ?side4 A25.out).mono ?_); (case side1 => repeat (first | exact (Kd.C_below HR1_4.out HB.out) | (with_reducible refine Kd.C_alloc ?_ _) | (with_reducible refine Kd.C_drewN ?_ _) | (with_reducible refine Kd.C_drew ?_))); (case side2 => exact HC1_4.out); (case side3 => repeat (first | exact (Kd.C_below HR0_4.out HB.out) | (with_reducible refine Kd.C_alloc ?_ _) | (with_reducible refine Kd.C_drewN ?_ _) | (with_reducible refine Kd.C_drew ?_))); (case side4 => exact HC0_4.out); rintro e w33 ⟨rfl, hb⟩; have n0_ := Aside0.mk (qw (g := gb150) (o := .cells #[.int .i64 a0_0, .int .i64 a0_1, .string a0_2, .string a0_3, .slice A0_4 l0_4.length c0_4] 30 (0, 0)) (by (with_reducible repeat (first | refine qa ?_ _ | refine qb ?_ | refine qc ?_ _)); exact BK150.out) hb); have n1_ := Aside0.mk (qw (g := gb151) (o := .cells #[.int .i64 a1_0, .int .i64 a1_1, .string a1_2, .string a1_3, .slice A1_4 l1_4.length c1_4] 30 (0, 0)) (by (with_reducible repeat (first | refine qa ?_ _ | refine qb ?_ | refine qc ?_ _)); exact BK151.out) hb); have n2_ := Aside0.mk (qw (g := gb152) (o := .cells #[.int .i64 a2_0, .int .i64 a2_1, .string a2_2, .string a2_3, .slice A2_4 l2_4.length c2_4] 30 (0, 0)) (by (with_reducible repeat (first | refine qa ?_ _ | refine qb ?_ | refine qc ?_ _)); exact BK152.out) hb); have n3_ := Aside0.mk (below_step (by repeat (first | (with_reducible first | exact HB.out | apply qf | apply qn | apply qe | refine qd ?_ GE150.out | refine qd ?_ GE151.out | refine qd ?_ GE152.out) | exact HB.out)) hb); clear BK150; clear BK151; clear BK152; clear HB; have BK150 := n0_; have BK151 := n1_; have BK152 := n2_; have HB := n3_; clear n0_ n1_ n2_ n3_; (try clear hb); (try clear hb2); (try clear hk); (try clear hi); have hcz34_0 : w33.cell? ⟨gb150, 0, none⟩ = some (.int .i64 a0_0) := (qh BK150.out 0).trans rfl; have hcz34_1 : w33.cell? ⟨gb150, 1, none⟩ = some (.int .i64 a0_1) := (qh BK150.out 1).trans rfl; have hcz34_2 : w33.cell? ⟨gb150, 2, none⟩ = some (.string a0_2) := (qh BK150.out 2).trans rfl; have hcz34_3 : w33.cell? ⟨gb150, 3, none⟩ = some (.string a0_3) := (qh BK150.out 3).trans rfl; have hcz34_4 : w33.cell? ⟨gb150, 4, none⟩ = some (.slice A0_4 l0_4.length c0_4) := (qh BK150.out 4).trans rfl; have hfz34_0 := qg BK150.out 0; have hfz34_1 := qg BK150.out 1; have hfz34_2 := qg BK150.out 2; have hfz34_3 := qg BK150.out 3; have hfz34_4 := qg BK150.out 4; have hcz35_0 : w33.cell? ⟨gb151, 0, none⟩ = some (.int .i64 a1_0) := (qh BK151.out 0).trans rfl; have hcz35_1 : w33.cell? ⟨gb151, 1, none⟩ = some (.int .i64 a1_1) := (qh BK151.out 1).trans rfl; have hcz35_2 : w33.cell? ⟨gb151, 2, none⟩ = some (.string a1_2) := (qh BK151.out 2).trans rfl; have hcz35_3 : w33.cell? ⟨gb151, 3, none⟩ = some (.string a1_3) := (qh BK151.out 3).trans rfl; have hcz35_4 : w33.cell? ⟨gb151, 4, none⟩ = some (.slice A1_4 l1_4.length c1_4) := (qh BK151.out 4).trans rfl; have hfz35_0 := qg BK151.out 0; have hfz35_1 := qg BK151.out 1; have hfz35_2 := qg BK151.out 2; have hfz35_3 := qg BK151.out 3; have hfz35_4 := qg BK151.out 4) | (go_at_call 16; (with_reducible refine (hearsaylaw02_same.calls k a0_0 a0_1 a0_2 a0_3 _ _ l0_4 a1_0 a1_1 a1_2 a1_3 _ _ l1_4 t157 _ ?side1 ?side2 ?side3 ?side4 A27.out).mono ?_); (case side1 => repeat (first | exact (Kd.C_below HR0_4.out HB.out) | (with_reducible refine Kd.C_alloc ?_ _) | (with_reducible refine Kd.C_drewN ?_ _) | (with_reducible refine Kd.C_drew ?_))); (case side2 => exact HC0_4.out); (case side3 => repeat (first | exact (Kd.C_below HR1_4.out HB.out) | (with_reducible refine Kd.C_alloc ?_ _) | (with_reducible refine Kd.C_drewN ?_ _) | (with_reducible refine Kd.C_drew ?_))); (case side4 => exact HC1_4.out); rintro e w36 ⟨rfl, hb⟩; have n0_ := Aside0.mk (qw (g := gb150) (o := .cells #[.int .i64 a0_0, .int .i64 a0_1, .string a0_2, .string a0_3, .slice A0_4 l0_4.length c0_4] 30 (0, 0)) (by (with_reducible repeat (first | refine qa ?_ _ | refine qb ?_ | refine qc ?_ _)); exact BK150.out) hb); have n1_ := Aside0.mk (qw (g := gb151) (o := .cells #[.int .i64 a1_0, .int .i64 a1_1, .string a1_2, .string a1_3, .slice A1_4 l1_4.length c1_4] 30 (0, 0)) (by (with_reducible repeat (first | refine qa ?_ _ | refine qb ?_ | refine qc ?_ _)); exact BK151.out) hb); have n2_ := Aside0.mk (qw (g := gb152) (o := .cells #[.int .i64 a2_0, .int .i64 a2_1, .string a2_2, .string a2_3, .slice A2_4 l2_4.length c2_4] 30 (0, 0)) (by (with_reducible repeat (first | refine qa ?_ _ | refine qb ?_ | refine qc ?_ _)); exact BK152.out) hb); have n3_ := Aside0.mk (below_step (by repeat (first | (with_reducible first | exact HB.out | apply qf | apply qn | apply qe | refine qd ?_ GE150.out | refine qd ?_ GE151.out | refine qd ?_ GE152.out) | exact HB.out)) hb); clear BK150; clear BK151; clear BK152; clear HB; have BK150 := n0_; have BK151 := n1_; have BK152 := n2_; have HB := n3_; clear n0_ n1_ n2_ n3_; (try clear hb); (try clear hb2); (try clear hk); (try clear hi)))
   go_meet
   exact ⟨_, (((t153 == 0) != t157)), (by first | rfl | (simp; done) | (simp [*]; done)), H', ⟨by first | omega | exact Nat.le_refl _⟩, ⟨by (with_reducible repeat (first | refine qa ?_ _ | refine qb ?_ | refine qc ?_ _)); exact BK150.out⟩, ⟨by (with_reducible repeat (first | refine qa ?_ _ | refine qb ?_ | refine qc ?_ _)); exact BK151.out⟩, ⟨by (with_reducible repeat (first | refine qa ?_ _ | refine qb ?_ | refine qc ?_ _)); exact BK152.out⟩, ⟨by repeat (first | (with_reducible first | exact HB.out | apply qf | apply qn | apply qe | refine qd ?_ GE150.out | refine qd ?_ GE151.out | refine qd ?_ GE152.out) | exact HB.out)⟩⟩
 clear HC7
 obtain ⟨kq, x45_6, rfl, HA, HJ6, BK150, BK151, BK152, HB⟩ := hcut
 rcases kq with _ | kj6
 · exact absurd HA.out (by simp [hearsaylaw02_TermOrder.j0])
 have H := HA.out
 clear HA
 simp only [hearsaylaw02_TermOrder.j0] at H
 by_cases c43 : x45_6 = true
 ·
  subst c43
  have H1 : (some false) = some r := by rw [if_pos rfl] at H; exact H
  clear H
  have H := H1
  clear H1
  obtain rfl := Option.some.inj H
  go_wp2
  go_ret
  exact ⟨by first | rfl | (simp [errW_none, errW_some] <;> rfl) | (simp [errW_none, errW_some, bne, show ∀ l_ : List UInt8, (l_ == []) = l_.isEmpty from fun l_ => by cases l_ <;> rfl]; done) | (simp [*, errW_none, errW_some] <;> rfl), by repeat (first | (with_reducible first | exact HB.out | apply qf | apply qn | apply qe | refine qd ?_ GE150.out | refine qd ?_ GE151.out | refine qd ?_ GE152.out) | exact HB.out)⟩
 replace c43 := Bool.eq_false_iff.mpr c43
 subst c43
 have H1 : (if t153 ≤ 0 then (if t154 ≤ 0 then (if t155 > 0 then (hearsaylaw02_TermOrder.j1 kj6 true a0_0 a0_1 a0_2 a0_3 l0_4 a1_0 a1_1 a1_2 a1_3 l1_4 a2_0 a2_1 a2_2 a2_3 l2_4) else (if t153 ≥ 0 then (if t154 ≥ 0 then (if t155 < 0 then (hearsaylaw02_TermOrder.j1 kj6 true a0_0 a0_1 a0_2 a0_3 l0_4 a1_0 a1_1 a1_2 a1_3 l1_4 a2_0 a2_1 a2_2 a2_3 l2_4) else (if t153 < 0 then (hearsaylaw02_TermOrder.j1 kj6 (decide (t155 ≥ 0)) a0_0 a0_1 a0_2 a0_3 l0_4 a1_0 a1_1 a1_2 a1_3 l1_4 a2_0 a2_1 a2_2 a2_3 l2_4) else (hearsaylaw02_TermOrder.j1 kj6 false a0_0 a0_1 a0_2 a0_3 l0_4 a1_0 a1_1 a1_2 a1_3 l1_4 a2_0 a2_1 a2_2 a2_3 l2_4))) else (if t153 < 0 then (hearsaylaw02_TermOrder.j1 kj6 (decide (t155 ≥ 0)) a0_0 a0_1 a0_2 a0_3 l0_4 a1_0 a1_1 a1_2 a1_3 l1_4 a2_0 a2_1 a2_2 a2_3 l2_4) else (hearsaylaw02_TermOrder.j1 kj6 false a0_0 a0_1 a0_2 a0_3 l0_4 a1_0 a1_1 a1_2 a1_3 l1_4 a2_0 a2_1 a2_2 a2_3 l2_4))) else (if t153 < 0 then (hearsaylaw02_TermOrder.j1 kj6 (decide (t155 ≥ 0)) a0_0 a0_1 a0_2 a0_3 l0_4 a1_0 a1_1 a1_2 a1_3 l1_4 a2_0 a2_1 a2_2 a2_3 l2_4) else (hearsaylaw02_TermOrder.j1 kj6 false a0_0 a0_1 a0_2 a0_3 l0_4 a1_0 a1_1 a1_2 a1_3 l1_4 a2_0 a2_1 a2_2 a2_3 l2_4)))) else (if t153 ≥ 0 then (if t154 ≥ 0 then (if t155 < 0 then (hearsaylaw02_TermOrder.j1 kj6 true a0_0 a0_1 a0_2 a0_3 l0_4 a1_0 a1_1 a1_2 a1_3 l1_4 a2_0 a2_1 a2_2 a2_3 l2_4) else (if t153 < 0 then (hearsaylaw02_TermOrder.j1 kj6 false a0_0 a0_1 a0_2 a0_3 l0_4 a1_0 a1_1 a1_2 a1_3 l1_4 a2_0 a2_1 a2_2 a2_3 l2_4) else (hearsaylaw02_TermOrder.j1 kj6 false a0_0 a0_1 a0_2 a0_3 l0_4 a1_0 a1_1 a1_2 a1_3 l1_4 a2_0 a2_1 a2_2 a2_3 l2_4))) else (if t153 < 0 then (hearsaylaw02_TermOrder.j1 kj6 false a0_0 a0_1 a0_2 a0_3 l0_4 a1_0 a1_1 a1_2 a1_3 l1_4 a2_0 a2_1 a2_2 a2_3 l2_4) else (hearsaylaw02_TermOrder.j1 kj6 false a0_0 a0_1 a0_2 a0_3 l0_4 a1_0 a1_1 a1_2 a1_3 l1_4 a2_0 a2_1 a2_2 a2_3 l2_4))) else (if t153 < 0 then (hearsaylaw02_TermOrder.j1 kj6 false a0_0 a0_1 a0_2 a0_3 l0_4 a1_0 a1_1 a1_2 a1_3 l1_4 a2_0 a2_1 a2_2 a2_3 l2_4) else (hearsaylaw02_TermOrder.j1 kj6 false a0_0 a0_1 a0_2 a0_3 l0_4 a1_0 a1_1 a1_2 a1_3 l1_4 a2_0 a2_1 a2_2 a2_3 l2_4)))) else (if t153 ≥ 0 then (if t154 ≥ 0 then (if t155 < 0 then (hearsaylaw02_TermOrder.j1 kj6 true a0_0 a0_1 a0_2 a0_3 l0_4 a1_0 a1_1 a1_2 a1_3 l1_4 a2_0 a2_1 a2_2 a2_3 l2_4) else (if t153 < 0 then (if t154 ≤ 0 then (hearsaylaw02_TermOrder.j1 kj6 (decide (t155 ≥ 0)) a0_0 a0_1 a0_2 a0_3 l0_4 a1_0 a1_1 a1_2 a1_3 l1_4 a2_0 a2_1 a2_2 a2_3 l2_4) else (hearsaylaw02_TermOrder.j1 kj6 false a0_0 a0_1 a0_2 a0_3 l0_4 a1_0 a1_1 a1_2 a1_3 l1_4 a2_0 a2_1 a2_2 a2_3 l2_4)) else (hearsaylaw02_TermOrder.j1 kj6 false a0_0 a0_1 a0_2 a0_3 l0_4 a1_0 a1_1 a1_2 a1_3 l1_4 a2_0 a2_1 a2_2 a2_3 l2_4))) else (if t153 < 0 then (if t154 ≤ 0 then (hearsaylaw02_TermOrder.j1 kj6 (decide (t155 ≥ 0)) a0_0 a0_1 a0_2 a0_3 l0_4 a1_0 a1_1 a1_2 a1_3 l1_4 a2_0 a2_1 a2_2 a2_3 l2_4) else (hearsaylaw02_TermOrder.j1 kj6 false a0_0 a0_1 a0_2 a0_3 l0_4 a1_0 a1_1 a1_2 a1_3 l1_4 a2_0 a2_1 a2_2 a2_3 l2_4)) else (hearsaylaw02_TermOrder.j1 kj6 false a0_0 a0_1 a0_2 a0_3 l0_4 a1_0 a1_1 a1_2 a1_3 l1_4 a2_0 a2_1 a2_2 a2_3 l2_4))) else (if t153 < 0 then (if t154 ≤ 0 then (hearsaylaw02_TermOrder.j1 kj6 (decide (t155 ≥ 0)) a0_0 a0_1 a0_2 a0_3 l0_4 a1_0 a1_1 a1_2 a1_3 l1_4 a2_0 a2_1 a2_2 a2_3 l2_4) else (hearsaylaw02_TermOrder.j1 kj6 false a0_0 a0_1 a0_2 a0_3 l0_4 a1_0 a1_1 a1_2 a1_3 l1_4 a2_0 a2_1 a2_2 a2_3 l2_4)) else (hearsaylaw02_TermOrder.j1 kj6 false a0_0 a0_1 a0_2 a0_3 l0_4 a1_0 a1_1 a1_2 a1_3 l1_4 a2_0 a2_1 a2_2 a2_3 l2_4)))) = some r := by rw [if_neg (show ¬ (false = true) by decide)] at H; exact H
 clear H
 have H := H1
 clear H1
 have HC44 := Aside0.mk H
 clear H
 go_upto_region 6 with (fail)
 go_cut [79] (fun v79 wc => ∃ (kq : Nat) (x79_43 : Bool), v79 = .bool x79_43 ∧ Aside0 (hearsaylaw02_TermOrder.j1 kq x79_43 a0_0 a0_1 a0_2 a0_3 l0_4 a1_0 a1_1 a1_2 a1_3 l1_4 a2_0 a2_1 a2_2 a2_3 l2_4 = some r) ∧ Aside0 (kq ≤ kj6) ∧ Aside0 (wc.heap[gb150]? = some (.cells #[.int .i64 a0_0, .int .i64 a0_1, .string a0_2, .string a0_3, (.slice A0_4 l0_4.length c0_4)] 30 (0, 0))) ∧ Aside0 (wc.heap[gb151]? = some (.cells #[.int .i64 a1_0, .int .i64 a1_1, .string a1_2, .string a1_3, (.slice A1_4 l1_4.length c1_4)] 30 (0, 0))) ∧ Aside0 (wc.heap[gb152]? = some (.cells #[.int .i64 a2_0, .int .i64 a2_1, .string a2_2, .string a2_3, (.slice A2_4 l2_4.length c2_4)] 30 (0, 0))) ∧ Aside0 (Below w.heap.size w wc))
 case first =>
  as_aux_lemma =>
   have H := HC44.out
   clear HC44
   by_cases c45 : t153 ≤ 0
   rotate_left
   ·
    rw [if_neg c45] at H
    have c45b0 : decide (t153 ≤ 0) = false := decide_eq_false c45
    clear c45
    (first | rw [c45b0] | (simp only [i64_w, i32_w]; rw [c45b0]) | skip)
    by_cases c60 : t153 ≥ 0
    rotate_left
    ·
     rw [if_neg c60] at H
     have c60b0 : decide (0 ≤ t153) = false := decide_eq_false c60
     clear c60
     by_cases c67 : t153 < 0
     rotate_left
     ·
      rw [if_neg c67] at H
      have c67b0 : decide (t153 < 0) = false := decide_eq_false c67
      clear c67
      have H' := Aside0.mk H
      clear H
      go_wp2
      go_meet
      exact ⟨_, (false), (by first | rfl | (simp; done) | (simp [*]; done)), H', ⟨by have := HJ6.out; first | omega | exact Nat.le_refl _⟩, ⟨by (with_reducible repeat (first | refine qa ?_ _ | refine qb ?_ | refine qc ?_ _)); exact BK150.out⟩, ⟨by (with_reducible repeat (first | refine qa ?_ _ | refine qb ?_ | refine qc ?_ _)); exact BK151.out⟩, ⟨by (with_reducible repeat (first | refine qa ?_ _ | refine qb ?_ | refine qc ?_ _)); exact BK152.out⟩, ⟨by repeat (first | (with_reducible first | exact HB.out | apply qf | apply qn | apply qe | refine qd ?_ GE150.out | refine qd ?_ GE151.out | refine qd ?_ GE152.out) | exact HB.out)⟩⟩
     rw [if_pos c67] at H
     have c67b0 : decide (t153 < 0) = true := decide_eq_true c67
     clear c67
     by_cases c68 : t154 ≤ 0
     ·
      rw [if_pos c68] at H
      have c68b0 : decide (t154 ≤ 0) = true := decide_eq_true c68
      clear c68
      have H' := Aside0.mk H
      clear H
      go_wp2
      go_meet
      exact ⟨_, (decide (t155 ≥ 0)), (by first | rfl | (simp; done) | (simp [*]; done)), H', ⟨by have := HJ6.out; first | omega | exact Nat.le_refl _⟩, ⟨by (with_reducible repeat (first | refine qa ?_ _ | refine qb ?_ | refine qc ?_ _)); exact BK150.out⟩, ⟨by (with_reducible repeat (first | refine qa ?_ _ | refine qb ?_ | refine qc ?_ _)); exact BK151.out⟩, ⟨by (with_reducible repeat (first | refine qa ?_ _ | refine qb ?_ | refine qc ?_ _)); exact BK152.out⟩, ⟨by repeat (first | (with_reducible first | exact HB.out | apply qf | apply qn | apply qe | refine qd ?_ GE150.out | refine qd ?_ GE151.out | refine qd ?_ GE152.out) | exact HB.out)⟩⟩
     rw [if_neg c68] at H
     have c68b0 : decide (t154 ≤ 0) = false := decide_eq_false c68
     clear c68
     have H' := Aside0.mk H
     clear H
     go_wp2
     go_meet
     exact ⟨_, (false), (by first | rfl | (simp; done) | (simp [*]; done)), H', ⟨by have := HJ6.out; first | omega | exact Nat.le_refl _⟩, ⟨by (with_reducible repeat (first | refine qa ?_ _ | refine qb ?_ | refine qc ?_ _)); exact BK150.out⟩, ⟨by (with_reducible repeat (first | refine qa ?_ _ | refine qb ?_ | refine qc ?_ _)); exact BK151.out⟩, ⟨by (with_reducible repeat (first | refine qa ?_ _ | refine qb ?_ | refine qc ?_ _)); exact BK152.out⟩, ⟨by repeat (first | (with_reducible first | exact HB.out | apply qf | apply qn | apply qe | refine qd ?_ GE150.out | refine qd ?_ GE151.out | refine qd ?_ GE152.out) | exact HB.out)⟩⟩
    rw [if_pos c60] at H
    have c60b0 : decide (0 ≤ t153) = true := decide_eq_true c60
    clear c60
    by_cases c61 : t154 ≥ 0
    rotate_left
    ·
     rw [if_neg c61] at H
     have c61b0 : decide (0 ≤ t154) = false := decide_eq_false c61
     clear c61
     by_cases c65 : t153 < 0
     rotate_left
     ·
      rw [if_neg c65] at H
      have c65b0 : decide (t153 < 0) = false := decide_eq_false c65
      clear c65
      have H' := Aside0.mk H
      clear H
      go_wp2
      go_meet
      exact ⟨_, (false), (by first | rfl | (simp; done) | (simp [*]; done)), H', ⟨by have := HJ6.out; first | omega | exact Nat.le_refl _⟩, ⟨by (with_reducible repeat (first | refine qa ?_ _ | refine qb ?_ | refine qc ?_ _)); exact BK150.out⟩, ⟨by (with_reducible repeat (first | refine qa ?_ _ | refine qb ?_ | refine qc ?_ _)); exact BK151.out⟩, ⟨by (with_reducible repeat (first | refine qa ?_ _ | refine qb ?_ | refine qc ?_ _)); exact BK152.out⟩, ⟨by repeat (first | (with_reducible first | exact HB.out | apply qf | apply qn | apply qe | refine qd ?_ GE150.out | refine qd ?_ GE151.out | refine qd ?_ GE152.out) | exact HB.out)⟩⟩
     rw [if_pos c65] at H
     have c65b0 : decide (t153 < 0) = true := decide_eq_true c65
     clear c65
     by_cases c66 : t154 ≤ 0
     ·
      rw [if_pos c66] at H
      have c66b0 : decide (t154 ≤ 0) = true := decide_eq_true c66
      clear c66
      have H' := Aside0.mk H
      clear H
      go_wp2
      go_meet
      exact ⟨_, (decide (t155 ≥ 0)), (by first | rfl | (simp; done) | (simp [*]; done)), H', ⟨by have := HJ6.out; first | omega | exact Nat.le_refl _⟩, ⟨by (with_reducible repeat (first | refine qa ?_ _ | refine qb ?_ | refine qc ?_ _)); exact BK150.out⟩, ⟨by (with_reducible repeat (first | refine qa ?_ _ | refine qb ?_ | refine qc ?_ _)); exact BK151.out⟩, ⟨by (with_reducible repeat (first | refine qa ?_ _ | refine qb ?_ | refine qc ?_ _)); exact BK152.out⟩, ⟨by repeat (first | (with_reducible first | exact HB.out | apply qf | apply qn | apply qe | refine qd ?_ GE150.out | refine qd ?_ GE151.out | refine qd ?_ GE152.out) | exact HB.out)⟩⟩
     rw [if_neg c66] at H
     have c66b0 : decide (t154 ≤ 0) = false := decide_eq_false c66
     clear c66
     have H' := Aside0.mk H
     clear H
     go_wp2
     go_meet
     exact ⟨_, (false), (by first | rfl | (simp; done) | (simp [*]; done)), H', ⟨by have := HJ6.out; first | omega | exact Nat.le_refl _⟩, ⟨by (with_reducible repeat (first | refine qa ?_ _ | refine qb ?_ | refine qc ?_ _)); exact BK150.out⟩, ⟨by (with_reducible repeat (first | refine qa ?_ _ | refine qb ?_ | refine qc ?_ _)); exact BK151.out⟩, ⟨by (with_reducible repeat (first | refine qa ?_ _ | refine qb ?_ | refine qc ?_ _)); exact BK152.out⟩, ⟨by repeat (first | (with_reducible first | exact HB.out | apply qf | apply qn | apply qe | refine qd ?_ GE150.out | refine qd ?_ GE151.out | refine qd ?_ GE152.out) | exact HB.out)⟩⟩
    rw [if_pos c61] at H
    have c61b0 : decide (0 ≤ t154) = true := decide_eq_true c61
    clear c61
    by_cases c62 : t155 < 0
    ·
     rw [if_pos c62] at H
     have c62b0 : decide (t155 < 0) = true := decide_eq_true c62
     clear c62
     have H' := Aside0.mk H
     clear H
     go_wp2
     go_meet
     exact ⟨_, (true), (by first | rfl | (simp; done) | (simp [*]; done)), H', ⟨by have := HJ6.out; first | omega | exact Nat.le_refl _⟩, ⟨by (with_reducible repeat (first | refine qa ?_ _ | refine qb ?_ | refine qc ?_ _)); exact BK150.out⟩, ⟨by (with_reducible repeat (first | refine qa ?_ _ | refine qb ?_ | refine qc ?_ _)); exact BK151.out⟩, ⟨by (with_reducible repeat (first | refine qa ?_ _ | refine qb ?_ | refine qc ?_ _)); exact BK152.out⟩, ⟨by repeat (first | (with_reducible first | exact HB.out | apply qf | apply qn | apply qe | refine qd ?_ GE150.out | refine qd ?_ GE151.out | refine qd ?_ GE152.out) | exact HB.out)⟩⟩
    rw [if_neg c62] at H
    have c62b0 : decide (t155 < 0) = false := decide_eq_false c62
    clear c62
    by_cases c63 : t153 < 0
    rotate_left
    ·
     rw [if_neg c63] at H
     have c63b0 : decide (t153 < 0) = false := decide_eq_false c63
     clear c63
     have H' := Aside0.mk H
     clear H
     go_wp2
     go_meet
     exact ⟨_, (false), (by first | rfl | (simp; done) | (simp [*]; done)), H', ⟨by have := HJ6.out; first | omega | exact Nat.le_refl _⟩, ⟨by (with_reducible repeat (first | refine qa ?_ _ | refine qb ?_ | refine qc ?_ _)); exact BK150.out⟩, ⟨by (with_reducible repeat (first | refine qa ?_ _ | refine qb ?_ | refine qc ?_ _)); exact BK151.out⟩, ⟨by (with_reducible repeat (first | refine qa ?_ _ | refine qb ?_ | refine qc ?_ _)); exact BK152.out⟩, ⟨by repeat (first | (with_reducible first | exact HB.out | apply qf | apply qn | apply qe | refine qd ?_ GE150.out | refine qd ?_ GE151.out | refine qd ?_ GE152.out) | exact HB.out)⟩⟩
    rw [if_pos c63] at H
    have c63b0 : decide (t153 < 0) = true := decide_eq_true c63
    clear c63
    by_cases c64 : t154 ≤ 0
    ·
     rw [if_pos c64] at H
     have c64b0 : decide (t154 ≤ 0) = true := decide_eq_true c64
     clear c64
     have H' := Aside0.mk H
     clear H
     go_wp2
     go_meet
     exact ⟨_, (decide (t155 ≥ 0)), (by first | rfl | (simp; done) | (simp [*]; done)), H', ⟨by have := HJ6.out; first | omega | exact Nat.le_refl _⟩, ⟨by (with_reducible repeat (first | refine qa ?_ _ | refine qb ?_ | refine qc ?_ _)); exact BK150.out⟩, ⟨by (with_reducible repeat (first | refine qa ?_ _ | refine qb ?_ | refine qc ?_ _)); exact BK151.out⟩, ⟨by (with_reducible repeat (first | refine qa ?_ _ | refine qb ?_ | refine qc ?_ _)); exact BK152.out⟩, ⟨by repeat (first | (with_reducible first | exact HB.out | apply qf | apply qn | apply qe | refine qd ?_ GE150.out | refine qd ?_ GE151.out | refine qd ?_ GE152.out) | exact HB.out)⟩⟩
    rw [if_neg c64] at H
    have c64b0 : decide (t154 ≤ 0) = false := decide_eq_false c64
    clear c64
    have H' := Aside0.mk H
    clear H
    go_wp2
    go_meet
    exact ⟨_, (false), (by first | rfl | (simp; done) | (simp [*]; done)), H', ⟨by have := HJ6.out; first | omega | exact Nat.le_refl _⟩, ⟨by (with_reducible repeat (first | refine qa ?_ _ | refine qb ?_ | refine qc ?_ _)); exact BK150.out⟩, ⟨by (with_reducible repeat (first | refine qa ?_ _ | refine qb ?_ | refine qc ?_ _)); exact BK151.out⟩, ⟨by (with_reducible repeat (first | refine qa ?_ _ | refine qb ?_ | refine qc ?_ _)); exact BK152.out⟩, ⟨by repeat (first | (with_reducible first | exact HB.out | apply qf | apply qn | apply qe | refine qd ?_ GE150.out | refine qd ?_ GE151.out | refine qd ?_ GE152.out) | exact HB.out)⟩⟩
   rw [if_pos c45] at H
   have c45b0 : decide (t153 ≤ 0) = true := decide_eq_true c45
   clear c45
   (first | rw [c45b0] | (simp only [i64_w, i32_w]; rw [c45b0]) | skip)
   by_cases c46 : t154 ≤ 0
   rotate_left
   ·
    rw [if_neg c46] at H
    have c46b0 : decide (t154 ≤ 0) = false := decide_eq_false c46
    clear c46
    by_cases c54 : t153 ≥ 0
    rotate_left
    ·
     rw [if_neg c54] at H
     have c54b0 : decide (0 ≤ t153) = false := decide_eq_false c54
     clear c54
     by_cases c59 : t153 < 0
     ·
      rw [if_pos c59] at H
      have c59b0 : decide (t153 < 0) = true := decide_eq_true c59
      clear c59
      have H' := Aside0.mk H
      clear H
      go_wp2
      go_meet
      exact ⟨_, (false), (by first | rfl | (simp; done) | (simp [*]; done)), H', ⟨by have := HJ6.out; first | omega | exact Nat.le_refl _⟩, ⟨by (with_reducible repeat (first | refine qa ?_ _ | refine qb ?_ | refine qc ?_ _)); exact BK150.out⟩, ⟨by (with_reducible repeat (first | refine qa ?_ _ | refine qb ?_ | refine qc ?_ _)); exact BK151.out⟩, ⟨by (with_reducible repeat (first | refine qa ?_ _ | refine qb ?_ | refine qc ?_ _)); exact BK152.out⟩, ⟨by repeat (first | (with_reducible first | exact HB.out | apply qf | apply qn | apply qe | refine qd ?_ GE150.out | refine qd ?_ GE151.out | refine qd ?_ GE152.out) | exact HB.out)⟩⟩
     rw [if_neg c59] at H
     have c59b0 : decide (t153 < 0) = false := decide_eq_false c59
     clear c59
     have H' := Aside0.mk H
     clear H
     go_wp2
     go_meet
     exact ⟨_, (false), (by first | rfl | (simp; done) | (simp [*]; done)), H', ⟨by have := HJ6.out; first | omega | exact Nat.le_refl _⟩, ⟨by (with_reducible repeat (first | refine qa ?_ _ | refine qb ?_ | refine qc ?_ _)); exact BK150.out⟩, ⟨by (with_reducible repeat (first | refine qa ?_ _ | refine qb ?_ | refine qc ?_ _)); exact BK151.out⟩, ⟨by (with_reducible repeat (first | refine qa ?_ _ | refine qb ?_ | refine qc ?_ _)); exact BK152.out⟩, ⟨by repeat (first | (with_reducible first | exact HB.out | apply qf | apply qn | apply qe | refine qd ?_ GE150.out | refine qd ?_ GE151.out | refine qd ?_ GE152.out) | exact HB.out)⟩⟩
    rw [if_pos c54] at H
    have c54b0 : decide (0 ≤ t153) = true := decide_eq_true c54
    clear c54
    by_cases c55 : t154 ≥ 0
    rotate_left
    ·
     rw [if_neg c55] at H
     have c55b0 : decide (0 ≤ t154) = false := decide_eq_false c55
     clear c55
     by_cases c58 : t153 < 0
     ·
      rw [if_pos c58] at H
      have c58b0 : decide (t153 < 0) = true := decide_eq_true c58
      clear c58
      have H' := Aside0.mk H
      clear H
      go_wp2
      go_meet
      exact ⟨_, (false), (by first | rfl | (simp; done) | (simp [*]; done)), H', ⟨by have := HJ6.out; first | omega | exact Nat.le_refl _⟩, ⟨by (with_reducible repeat (first | refine qa ?_ _ | refine qb ?_ | refine qc ?_ _)); exact BK150.out⟩, ⟨by (with_reducible repeat (first | refine qa ?_ _ | refine qb ?_ | refine qc ?_ _)); exact BK151.out⟩, ⟨by (with_reducible repeat (first | refine qa ?_ _ | refine qb ?_ | refine qc ?_ _)); exact BK152.out⟩, ⟨by repeat (first | (with_reducible first | exact HB.out | apply qf | apply qn | apply qe | refine qd ?_ GE150.out | refine qd ?_ GE151.out | refine qd ?_ GE152.out) | exact HB.out)⟩⟩
     rw [if_neg c58] at H
     have c58b0 : decide (t153 < 0) = false := decide_eq_false c58
     clear c58
     have H' := Aside0.mk H
     clear H
     go_wp2
     go_meet
     exact ⟨_, (false), (by first | rfl | (simp; done) | (simp [*]; done)), H', ⟨by have := HJ6.out; first | omega | exact Nat.le_refl _⟩, ⟨by (with_reducible repeat (first | refine qa ?_ _ | refine qb ?_ | refine qc ?_ _)); exact BK150.out⟩, ⟨by (with_reducible repeat (first | refine qa ?_ _ | refine qb ?_ | refine qc ?_ _)); exact BK151.out⟩, ⟨by (with_reducible repeat (first | refine qa ?_ _ | refine qb ?_ | refine qc ?_ _)); exact BK152.out⟩, ⟨by repeat (first | (with_reducible first | exact HB.out | apply qf | apply qn | apply qe | refine qd ?_ GE150.out | refine qd ?_ GE151.out | refine qd ?_ GE152.out) | exact HB.out)⟩⟩
    rw [if_pos c55] at H
    have c55b0 : decide (0 ≤ t154) = true := decide_eq_true c55
    clear c55
    by_cases c56 : t155 < 0
    ·
     rw [if_pos c56] at H
     have c56b0 : decide (t155 < 0) = true := decide_eq_true c56
     clear c56
     have H' := Aside0.mk H
     clear H
     go_wp2
     go_meet
     exact ⟨_, (true), (by first | rfl | (simp; done) | (simp [*]; done)), H', ⟨by have := HJ6.out; first | omega | exact Nat.le_refl _⟩, ⟨by (with_reducible repeat (first | refine qa ?_ _ | refine qb ?_ | refine qc ?_ _)); exact BK150.out⟩, ⟨by (with_reducible repeat (first | refine qa ?_ _ | refine qb ?_ | refine qc ?_ _)); exact BK151.out⟩, ⟨by (with_reducible repeat (first | refine qa ?_ _ | refine qb ?_ | refine qc ?_ _)); exact BK152.out⟩, ⟨by repeat (first | (with_reducible first | exact HB.out | apply qf | apply qn | apply qe | refine qd ?_ GE150.out | refine qd ?_ GE151.out | refine qd ?_ GE152.out) | exact HB.out)⟩⟩
    rw [if_neg c56] at H
    have c56b0 : decide (t155 < 0) = false := decide_eq_false c56
    clear c56
    by_cases c57 : t153 < 0
    ·
     rw [if_pos c57] at H
     have c57b0 : decide (t153 < 0) = true := decide_eq_true c57
     clear c57
     have H' := Aside0.mk H
     clear H
     go_wp2
     go_meet
     exact ⟨_, (false), (by first | rfl | (simp; done) | (simp [*]; done)), H', ⟨by have := HJ6.out; first | omega | exact Nat.le_refl _⟩, ⟨by (with_reducible repeat (first | refine qa ?_ _ | refine qb ?_ | refine qc ?_ _)); exact BK150.out⟩, ⟨by (with_reducible repeat (first | refine qa ?_ _ | refine qb ?_ | refine qc ?_ _)); exact BK151.out⟩, ⟨by (with_reducible repeat (first | refine qa ?_ _ | refine qb ?_ | refine qc ?_ _)); exact BK152.out⟩, ⟨by repeat (first | (with_reducible first | exact HB.out | apply qf | apply qn | apply qe | refine qd ?_ GE150.out | refine qd ?_ GE151.out | refine qd ?_ GE152.out) | exact HB.out)⟩⟩
    rw [if_neg c57] at H
    have c57b0 : decide (t153 < 0) = false := decide_eq_false c57
    clear c57
    have H' := Aside0.mk H
    clear H
    go_wp2
    go_meet
    exact ⟨_, (false), (by first | rfl | (simp; done) | (simp [*]; done)), H', ⟨by have := HJ6.out; first | omega | exact Nat.le_refl _⟩, ⟨by (with_reducible repeat (first | refine qa ?_ _ | refine qb ?_ | refine qc ?_ _)); exact BK150.out⟩, ⟨by (with_reducible repeat (first | refine qa ?_ _ | refine qb ?_ | refine qc ?_ _)); exact BK151.out⟩, ⟨by (with_reducible repeat (first | refine qa ?_ _ | refine qb ?_ | refine qc ?_ _)); exact BK152.out⟩, ⟨by repeat (first | (with_reducible first | exact HB.out | apply qf | apply qn | apply qe | refine qd ?_ GE150.out | refine qd ?_ GE151.out | refine qd ?_ GE152.out) | exact HB.out)⟩⟩
   rw [if_pos c46] at H
   have c46b0 : decide (t154 ≤ 0) = true := decide_eq_true c46
   clear c46
   by_cases c47 : t155 > 0
   ·
    rw [if_pos c47] at H
    have c47b0 : decide (0 < t155) = true := decide_eq_true c47
    clear c47
    have H' := Aside0.mk H
    clear H
    go_wp2
    go_meet
    exact ⟨_, (true), (by first | rfl | (simp; done) | (simp [*]; done)), H', ⟨by have := HJ6.out; first | omega | exact Nat.le_refl _⟩, ⟨by (with_reducible repeat (first | refine qa ?_ _ | refine qb ?_ | refine qc ?_ _)); exact BK150.out⟩, ⟨by (with_reducible repeat (first | refine qa ?_ _ | refine qb ?_ | refine qc ?_ _)); exact BK151.out⟩, ⟨by (with_reducible repeat (first | refine qa ?_ _ | refine qb ?_ | refine qc ?_ _)); exact BK152.out⟩, ⟨by repeat (first | (with_reducible first | exact HB.out | apply qf | apply qn | apply qe | refine qd ?_ GE150.out | refine qd ?_ GE151.out | refine qd ?_ GE152.out) | exact HB.out)⟩⟩
   rw [if_neg c47] at H
   have c47b0 : decide (0 < t155) = false := decide_eq_false c47
   clear c47
   by_cases c48 : t153 ≥ 0
   rotate_left
   ·
    rw [if_neg c48] at H
    have c48b0 : decide (0 ≤ t153) = false := decide_eq_false c48
    clear c48
    by_cases c53 : t153 < 0
    ·
     rw [if_pos c53] at H
     have c53b0 : decide (t153 < 0) = true := decide_eq_true c53
     clear c53
     have H' := Aside0.mk H
     clear H
     go_wp2
     go_meet
     exact ⟨_, (decide (t155 ≥ 0)), (by first | rfl | (simp; done) | (simp [*]; done)), H', ⟨by have := HJ6.out; first | omega | exact Nat.le_refl _⟩, ⟨by (with_reducible repeat (first | refine qa ?_ _ | refine qb ?_ | refine qc ?_ _)); exact BK150.out⟩, ⟨by (with_reducible repeat (first | refine qa ?_ _ | refine qb ?_ | refine qc ?_ _)); exact BK151.out⟩, ⟨by (with_reducible repeat (first | refine qa ?_ _ | refine qb ?_ | refine qc ?_ _)); exact BK152.out⟩, ⟨by repeat (first | (with_reducible first | exact HB.out | apply qf | apply qn | apply qe | refine qd ?_ GE150.out | refine qd ?_ GE151.out | refine qd ?_ GE152.out) | exact HB.out)⟩⟩
    rw [if_neg c53] at H
    have c53b0 : decide (t153 < 0) = false := decide_eq_false c53
    clear c53
    have H' := Aside0.mk H
    clear H
    go_wp2
    go_meet
    exact ⟨_, (false), (by first | rfl | (simp; done) | (simp [*]; done)), H', ⟨by have := HJ6.out; first | omega | exact Nat.le_refl _⟩, ⟨by (with_reducible repeat (first | refine qa ?_ _ | refine qb ?_ | refine qc ?_ _)); exact BK150.out⟩, ⟨by (with_reducible repeat (first | refine qa ?_ _ | refine qb ?_ | refine qc ?_ _)); exact BK151.out⟩, ⟨by (with_reducible repeat (first | refine qa ?_ _ | refine qb ?_ | refine qc ?_ _)); exact BK152.out⟩, ⟨by repeat (first | (with_reducible first | exact HB.out | apply qf | apply qn | apply qe | refine qd ?_ GE150.out | refine qd ?_ GE151.out | refine qd ?_ GE152.out) | exact HB.out)⟩⟩
   rw [if_pos c48] at H
   have c48b0 : decide (0 ≤ t153) = true := decide_eq_true c48
   clear c48
   by_cases c49 : t154 ≥ 0
   rotate_left
   ·
    rw [if_neg c49] at H
    have c49b0 : decide (0 ≤ t154) = false := decide_eq_false c49
    clear c49
    by_cases c52 : t153 < 0
    ·
     rw [if_pos c52] at H
     have c52b0 : decide (t153 < 0) = true := decide_eq_true c52
     clear c52
     have H' := Aside0.mk H
     clear H
     go_wp2
     go_meet
     exact ⟨_, (decide (t155 ≥ 0)), (by first | rfl | (simp; done) | (simp [*]; done)), H', ⟨by have := HJ6.out; first | omega | exact Nat.le_refl _⟩, ⟨by (with_reducible repeat (first | refine qa ?_ _ | refine qb ?_ | refine qc ?_ _)); exact BK150.out⟩, ⟨by (with_reducible repeat (first | refine qa ?_ _ | refine qb ?_ | refine qc ?_ _)); exact BK151.out⟩, ⟨by (with_reducible repeat (first | refine qa ?_ _ | refine qb ?_ | refine qc ?_ _)); exact BK152.out⟩, ⟨by repeat (first | (with_reducible first | exact HB.out | apply qf | apply qn | apply qe | refine qd ?_ GE150.out | refine qd ?_ GE151.out | refine qd ?_ GE152.out) | exact HB.out)⟩⟩
    rw [if_neg c52] at H
    have c52b0 : decide (t153 < 0) = false := decide_eq_false c52
    clear c52
    have H' := Aside0.mk H
    clear H
    go_wp2
    go_meet
    exact ⟨_, (false), (by first | rfl | (simp; done) | (simp [*]; done)), H', ⟨by have := HJ6.out; first | omega | exact Nat.le_refl _⟩, ⟨by (with_reducible repeat (first | refine qa ?_ _ | refine qb ?_ | refine qc ?_ _)); exact BK150.out⟩, ⟨by (with_reducible repeat (first | refine qa ?_ _ | refine qb ?_ | refine qc ?_ _)); exact BK151.out⟩, ⟨by (with_reducible repeat (first | refine qa ?_ _ | refine qb ?_ | refine qc ?_ _)); exact BK152.out⟩, ⟨by repeat (first | (with_reducible first | exact HB.out | apply qf | apply qn | apply qe | refine qd ?_ GE150.out | refine qd ?_ GE151.out | refine qd ?_ GE152.out) | exact HB.out)⟩⟩
   rw [if_pos c49] at H
   have c49b0 : decide (0 ≤ t154) = true := decide_eq_true c49
   clear c49
   by_cases c50 : t155 < 0
   ·
    rw [if_pos c50] at H
    have c50b0 : decide (t155 < 0) = true := decide_eq_true c50
    clear c50
    have H' := Aside0.mk H
    clear H
    go_wp2
    go_meet
    exact ⟨_, (true), (by first | rfl | (simp; done) | (simp [*]; done)), H', ⟨by have := HJ6.out; first | omega | exact Nat.le_refl _⟩, ⟨by (with_reducible repeat (first | refine qa ?_ _ | refine qb ?_ | refine qc ?_ _)); exact BK150.out⟩, ⟨by (with_reducible repeat (first | refine qa ?_ _ | refine qb ?_ | refine qc ?_ _)); exact BK151.out⟩, ⟨by (with_reducible repeat (first | refine qa ?_ _ | refine qb ?_ | refine qc ?_ _)); exact BK152.out⟩, ⟨by repeat (first | (with_reducible first | exact HB.out | apply qf | apply qn | apply qe | refine qd ?_ GE150.out | refine qd ?_ GE151.out | refine qd ?_ GE152.out) | exact HB.out)⟩⟩
   rw [if_neg c50] at H
   have c50b0 : decide (t155 < 0) = false := decide_eq_false c50
   clear c50
   by_cases c51 : t153 < 0
   ·
    rw [if_pos c51] at H
    have c51b0 : decide (t153 < 0) = true := decide_eq_true c51
    clear c51
    have H' := Aside0.mk H
    clear H
    go_wp2
    go_meet
    exact ⟨_, (decide (t155 ≥ 0)), (by first | rfl | (simp; done) | (simp [*]; done)), H', ⟨by have := HJ6.out; first | omega | exact Nat.le_refl _⟩, ⟨by (with_reducible repeat (first | refine qa ?_ _ | refine qb ?_ | refine qc ?_ _)); exact BK150.out⟩, ⟨by (with_reducible repeat (first | refine qa ?_ _ | refine qb ?_ | refine qc ?_ _)); exact BK151.out⟩, ⟨by (with_reducible repeat (first | refine qa ?_ _ | refine qb ?_ | refine qc ?_ _)); exact BK152.out⟩, ⟨by repeat (first | (with_reducible first | exact HB.out | apply qf | apply qn | apply qe | refine qd ?_ GE150.out | refine qd ?_ GE151.out | refine qd ?_ GE152.out) | exact HB.out)⟩⟩
   rw [if_neg c51] at H
   have c51b0 : decide (t153 < 0) = false := decide_eq_false c51
   clear c51
   have H' := Aside0.mk H
   clear H
   go_wp2
   go_meet
   exact ⟨_, (false), (by first | rfl | (simp; done) | (simp [*]; done)), H', ⟨by have := HJ6.out; first | omega | exact Nat.le_refl _⟩, ⟨by (with_reducible repeat (first | refine qa ?_ _ | refine qb ?_ | refine qc ?_ _)); exact BK150.out⟩, ⟨by (with_reducible repeat (first | refine qa ?_ _ | refine qb ?_ | refine qc ?_ _)); exact BK151.out⟩, ⟨by (with_reducible repeat (first | refine qa ?_ _ | refine qb ?_ | refine qc ?_ _)); exact BK152.out⟩, ⟨by repeat (first | (with_reducible first | exact HB.out | apply qf | apply qn | apply qe | refine qd ?_ GE150.out | refine qd ?_ GE151.out | refine qd ?_ GE152.out) | exact HB.out)⟩⟩
 clear HC44
 obtain ⟨kq, x79_43, rfl, HA, HJ43, BK150, BK151, BK152, HB⟩ := hcut
 rcases kq with _ | kj43
 · exact absurd HA.out (by simp [hearsaylaw02_TermOrder.j1])
 have H := HA.out
 clear HA
 simp only [hearsaylaw02_TermOrder.j1] at H
 by_cases c69 : x79_43 = true
 ·
  subst c69
  have H1 : (some false) = some r := by rw [if_pos rfl] at H; exact H
  clear H
  have H := H1
  clear H1
  obtain rfl := Option.some.inj H
  go_wp2
  go_ret
  exact ⟨by first | rfl | (simp [errW_none, errW_some] <;> rfl) | (simp [errW_none, errW_some, bne, show ∀ l_ : List UInt8, (l_ == []) = l_.isEmpty from fun l_ => by cases l_ <;> rfl]; done) | (simp [*, errW_none, errW_some] <;> rfl), by repeat (first | (with_reducible first | exact HB.out | apply qf | apply qn | apply qe | refine qd ?_ GE150.out | refine qd ?_ GE151.out | refine qd ?_ GE152.out) | exact HB.out)⟩
 replace c69 := Bool.eq_false_iff.mpr c69
 subst c69
 have H1 : (hearsaylaw02_TermOrder.l0 kj43 (([(⟨a0_0, a0_1, a0_2⟩ : S23), (⟨a1_0, a1_1, a1_2⟩ : S23), (⟨a2_0, a2_1, a2_2⟩ : S23)] : List (S23))) 0 a0_0 a0_1 a0_2 a0_3 l0_4) = some r := by rw [if_neg (show ¬ (false = true) by decide)] at H; exact H
 clear H
 have H := H1
 clear H1
 obtain ⟨y158, hy158⟩ : ∃ y_ : List (S23), y_ = (([(⟨a0_0, a0_1, a0_2⟩ : S23), (⟨a1_0, a1_1, a1_2⟩ : S23), (⟨a2_0, a2_1, a2_2⟩ : S23)] : List (S23))) := ⟨_, rfl⟩
 replace H : (hearsaylaw02_TermOrder.l0 kj43 y158 0 a0_0 a0_1 a0_2 a0_3 l0_4) = some r := by first | (rw [hy158]; with_reducible exact H) | (have H2_ := (Option.bind_some _ _).symm.trans H; rw [hy158]; with_reducible exact H2_) | (have H2_ := (Option.bind_some _ _).symm.trans H; with_reducible exact H2_) | with_reducible exact H | (rw [hy158]; exact H) | exact H
 have Ny158 := Aside0.mk hy158
 clear hy158
 have H' := Aside0.mk H
 clear H
 have hnb70 := NB150_151.out
 have hnc70 := NB151_150.out
 have hnb71 := NB150_152.out
 have hnc71 := NB152_150.out
 have hcz72_0 : wc.cell? ⟨gb150, 0, none⟩ = some (.int .i64 a0_0) := (qh BK150.out 0).trans rfl
 have hcz72_1 : wc.cell? ⟨gb150, 1, none⟩ = some (.int .i64 a0_1) := (qh BK150.out 1).trans rfl
 have hcz72_2 : wc.cell? ⟨gb150, 2, none⟩ = some (.string a0_2) := (qh BK150.out 2).trans rfl
 have hcz72_3 : wc.cell? ⟨gb150, 3, none⟩ = some (.string a0_3) := (qh BK150.out 3).trans rfl
 have hcz72_4 : wc.cell? ⟨gb150, 4, none⟩ = some (.slice A0_4 l0_4.length c0_4) := (qh BK150.out 4).trans rfl
 have hfz72_0 := qg BK150.out 0
 have hfz72_1 := qg BK150.out 1
 have hfz72_2 := qg BK150.out 2
 have hfz72_3 := qg BK150.out 3
 have hfz72_4 := qg BK150.out 4
 have hnb73 := NB151_152.out
 have hnc73 := NB152_151.out
 have hcz74_0 : wc.cell? ⟨gb151, 0, none⟩ = some (.int .i64 a1_0) := (qh BK151.out 0).trans rfl
 have hcz74_1 : wc.cell? ⟨gb151, 1, none⟩ = some (.int .i64 a1_1) := (qh BK151.out 1).trans rfl
 have hcz74_2 : wc.cell? ⟨gb151, 2, none⟩ = some (.string a1_2) := (qh BK151.out 2).trans rfl
 have hcz74_3 : wc.cell? ⟨gb151, 3, none⟩ = some (.string a1_3) := (qh BK151.out 3).trans rfl
 have hcz74_4 : wc.cell? ⟨gb151, 4, none⟩ = some (.slice A1_4 l1_4.length c1_4) := (qh BK151.out 4).trans rfl
 have hfz74_0 := qg BK151.out 0
 have hfz74_1 := qg BK151.out 1
 have hfz74_2 := qg BK151.out 2
 have hfz74_3 := qg BK151.out 3
 have hfz74_4 := qg BK151.out 4
 have hcz75_0 : wc.cell? ⟨gb152, 0, none⟩ = some (.int .i64 a2_0) := (qh BK152.out 0).trans rfl
 have hcz75_1 : wc.cell? ⟨gb152, 1, none⟩ = some (.int .i64 a2_1) := (qh BK152.out 1).trans rfl
 have hcz75_2 : wc.cell? ⟨gb152, 2, none⟩ = some (.string a2_2) := (qh BK152.out 2).trans rfl
 have hcz75_3 : wc.cell? ⟨gb152, 3, none⟩ = some (.string a2_3) := (qh BK152.out 3).trans rfl
 have hcz75_4 : wc.cell? ⟨gb152, 4, none⟩ = some (.slice A2_4 l2_4.length c2_4) := (qh BK152.out 4).trans rfl
 have hfz75_0 := qg BK152.out 0
 have hfz75_1 := qg BK152.out 1
 have hfz75_2 := qg BK152.out 2
 have hfz75_3 := qg BK152.out 3
 have hfz75_4 := qg BK152.out 4
 go_wp2_with (first | ((with_reducible refine gate_dst (N := 86) rfl ?_); refine Kd.R_lit k23 _ 23 ?hg (N := 86) ?hd (xs := ([(⟨a0_0, a0_1, a0_2⟩ : S23), (⟨a1_0, a1_1, a1_2⟩ : S23), (⟨a2_0, a2_1, a2_2⟩ : S23)] : List (S23))) (inner := [.int .i64 a0_0, .int .i64 a0_1, .string a0_2, .int .i64 a1_0, .int .i64 a1_1, .string a1_2, .int .i64 a2_0, .int .i64 a2_1, .string a2_2]) (ok := fun _ => True) (okp := fun _ => True) ?hr ?hp (fun _ hk => hk) trivial (Below.refl _ _) (Nat.le_refl _) (by simp) ?_; (case hd => rfl); (case hg => rfl); (case hr => first | (go_simp; done) | (go_simp; rfl)); (case hp => exact (Reps.c3 (show Kd.M k23 _ _ _ (⟨a0_0, a0_1, a0_2⟩ : S23) [.int .i64 a0_0, .int .i64 a0_1, .string a0_2] from (k23_mkM _ _ _ (⟨a0_0, a0_1, a0_2⟩ : S23) )) (Reps.c3 (show Kd.M k23 _ _ _ (⟨a1_0, a1_1, a1_2⟩ : S23) [.int .i64 a1_0, .int .i64 a1_1, .string a1_2] from (k23_mkM _ _ _ (⟨a1_0, a1_1, a1_2⟩ : S23) )) (Reps.c3 (show Kd.M k23 _ _ _ (⟨a2_0, a2_1, a2_2⟩ : S23) [.int .i64 a2_0, .int .i64 a2_1, .string a2_2] from (k23_mkM _ _ _ (⟨a2_0, a2_1, a2_2⟩ : S23) )) (Reps.none _ _))))); intro v159 w76 ho77 hb hg_ hnew_; clear hg_ hnew_; (first | rw [← Ny158.out] at ho77 | (simp only [Int.reduceToNat] at ho77; rw [← Ny158.out] at ho77)); have n0_ := Aside0.mk (Kd.R_lower ho77 (below_size (by repeat (first | (with_reducible first | exact HB.out | apply qf | apply qn | apply qe | refine qd ?_ GE150.out | refine qd ?_ GE151.out | refine qd ?_ GE152.out) | exact HB.out)))); have n1_ := Aside0.mk (qw (g := gb150) (o := .cells #[.int .i64 a0_0, .int .i64 a0_1, .string a0_2, .string a0_3, .slice A0_4 l0_4.length c0_4] 30 (0, 0)) (by (with_reducible repeat (first | refine qa ?_ _ | refine qb ?_ | refine qc ?_ _)); exact BK150.out) hb); have n2_ := Aside0.mk (qw (g := gb151) (o := .cells #[.int .i64 a1_0, .int .i64 a1_1, .string a1_2, .string a1_3, .slice A1_4 l1_4.length c1_4] 30 (0, 0)) (by (with_reducible repeat (first | refine qa ?_ _ | refine qb ?_ | refine qc ?_ _)); exact BK151.out) hb); have n3_ := Aside0.mk (qw (g := gb152) (o := .cells #[.int .i64 a2_0, .int .i64 a2_1, .string a2_2, .string a2_3, .slice A2_4 l2_4.length c2_4] 30 (0, 0)) (by (with_reducible repeat (first | refine qa ?_ _ | refine qb ?_ | refine qc ?_ _)); exact BK152.out) hb); have n4_ := Aside0.mk (below_step (by repeat (first | (with_reducible first | exact HB.out | apply qf | apply qn | apply qe | refine qd ?_ GE150.out | refine qd ?_ GE151.out | refine qd ?_ GE152.out) | exact HB.out)) hb); clear BK150; clear BK151; clear BK152; clear HB; have HO160 := n0_; have BK150 := n1_; have BK151 := n2_; have BK152 := n3_; have HB := n4_; clear n0_ n1_ n2_ n3_ n4_; clear hb ho77))
 go_loopg [11] kj43 (fun kq v11 w' => ∃ (x11_3 : Int), v11 = .int .i64 x11_3 ∧ Aside0 (hearsaylaw02_TermOrder.l0 kq y158 x11_3 a0_0 a0_1 a0_2 a0_3 l0_4 = some r) ∧ Aside0 (kq ≤ kj43) ∧ Aside0 (Kd.R k23 23 w' w.heap.size (fun _ => True) v159 y158) ∧ Aside0 (w'.heap[gb150]? = some (.cells #[.int .i64 a0_0, .int .i64 a0_1, .string a0_2, .string a0_3, (.slice A0_4 l0_4.length c0_4)] 30 (0, 0))) ∧ Aside0 (w'.heap[gb151]? = some (.cells #[.int .i64 a1_0, .int .i64 a1_1, .string a1_2, .string a1_3, (.slice A1_4 l1_4.length c1_4)] 30 (0, 0))) ∧ Aside0 (w'.heap[gb152]? = some (.cells #[.int .i64 a2_0, .int .i64 a2_1, .string a2_2, .string a2_3, (.slice A2_4 l2_4.length c2_4)] 30 (0, 0))) ∧ Aside0 (Below w.heap.size w w'))
 case atStart => exact ⟨(0), (by first | rfl | (simp; done) | (simp [*]; done)), H', ⟨Nat.le_refl _⟩, ⟨by (with_reducible repeat (first | apply qz | apply qx | apply qy)); exact HO160.out⟩, ⟨by (with_reducible repeat (first | refine qa ?_ _ | refine qb ?_ | refine qc ?_ _)); exact BK150.out⟩, ⟨by (with_reducible repeat (first | refine qa ?_ _ | refine qb ?_ | refine qc ?_ _)); exact BK151.out⟩, ⟨by (with_reducible repeat (first | refine qa ?_ _ | refine qb ?_ | refine qc ?_ _)); exact BK152.out⟩, ⟨by repeat (first | (with_reducible first | exact HB.out | apply qf | apply qn | apply qe | refine qd ?_ GE150.out | refine qd ?_ GE151.out | refine qd ?_ GE152.out) | exact HB.out)⟩⟩
 clear H'
 obtain ⟨x11_3, rfl, HA, HK3, HO_10, BK150, BK151, BK152, HB⟩ := hrel
 rcases gk with _ | k3
 · exact absurd HA.out (by simp [hearsaylaw02_TermOrder.l0])
 have H := HA.out
 clear HA
 simp only [hearsaylaw02_TermOrder.l0] at H
 by_cases c78 : x11_3 < 3
 rotate_left
 ·
  rw [if_neg c78] at H
  have c78b0 : decide (x11_3 < 3) = false := decide_eq_false c78
  clear c78
  replace H := Option.bind_eq_some_iff.mp H
  obtain ⟨t180, A1250, H⟩ := H
  replace H : (some t180) = some r := H
  have A125 := Aside0.mk A1250
  clear A1250
  obtain rfl := Option.some.inj H
  go_wp2_with (first | ((with_reducible refine gate_callee (f := 14) rfl ?_); refine goesL_ (some 146) rfl rfl Try.func14 (by as_aux_lemma => kernel_rfl) rfl #[] rfl (by (try simp only [List.map_toArray, List.map_cons, List.map_nil]); first | done | rfl | (simp only [List.length_drop, List.length_take]; rfl)) ?_; (with_reducible refine (hearsaylaw02_first.calls  t180 _ A125.out).mono ?_); rintro e w126 ⟨rfl, hb⟩; refine ⟨_, rfl, ?_⟩; have n0_ := Aside0.mk (Kd.R_below (by (with_reducible repeat (first | apply qz | apply qx | apply qy)); exact HO_10.out) hb); have n1_ := Aside0.mk (qw (g := gb150) (o := .cells #[.int .i64 a0_0, .int .i64 a0_1, .string a0_2, .string a0_3, .slice A0_4 l0_4.length c0_4] 30 (0, 0)) (by (with_reducible repeat (first | refine qa ?_ _ | refine qb ?_ | refine qc ?_ _)); exact BK150.out) hb); have n2_ := Aside0.mk (qw (g := gb151) (o := .cells #[.int .i64 a1_0, .int .i64 a1_1, .string a1_2, .string a1_3, .slice A1_4 l1_4.length c1_4] 30 (0, 0)) (by (with_reducible repeat (first | refine qa ?_ _ | refine qb ?_ | refine qc ?_ _)); exact BK151.out) hb); have n3_ := Aside0.mk (qw (g := gb152) (o := .cells #[.int .i64 a2_0, .int .i64 a2_1, .string a2_2, .string a2_3, .slice A2_4 l2_4.length c2_4] 30 (0, 0)) (by (with_reducible repeat (first | refine qa ?_ _ | refine qb ?_ | refine qc ?_ _)); exact BK152.out) hb); have n4_ := Aside0.mk (below_step (by repeat (first | (with_reducible first | exact HB.out | apply qf | apply qn | apply qe | refine qd ?_ GE150.out | refine qd ?_ GE151.out | refine qd ?_ GE152.out) | exact HB.out)) hb); clear HO_10; clear BK150; clear BK151; clear BK152; clear HB; have HO_10 := n0_; have BK150 := n1_; have BK151 := n2_; have BK152 := n3_; have HB := n4_; clear n0_ n1_ n2_ n3_ n4_; (try clear hb); (try clear hb2); (try clear hk); (try clear hi)))
  go_ret
  exact ⟨by first | rfl | (simp [errW_none, errW_some] <;> rfl) | (simp [errW_none, errW_some, bne, show ∀ l_ : List UInt8, (l_ == []) = l_.isEmpty from fun l_ => by cases l_ <;> rfl]; done) | (simp [*, errW_none, errW_some] <;> rfl), by repeat (first | (with_reducible first | exact HB.out | apply qf | apply qn | apply qe | refine qd ?_ GE150.out | refine qd ?_ GE151.out | refine qd ?_ GE152.out) | exact HB.out)⟩
 rw [if_pos c78] at H
 have c78b0 : decide (x11_3 < 3) = true := decide_eq_true c78
 clear c78
 have H' := Aside0.mk H
 clear H
 go_wp2
 go_loopg [12] k3 (fun kq v12 w' => ∃ (x12_4 : Int), v12 = .int .i64 x12_4 ∧ Aside0 (hearsaylaw02_TermOrder.l1 kq y158 x11_3 x12_4 a0_0 a0_1 a0_2 a0_3 l0_4 = some r) ∧ Aside0 (kq ≤ k3) ∧ Aside0 (Kd.R k23 23 w' w.heap.size (fun _ => True) v159 y158) ∧ Aside0 (w'.heap[gb150]? = some (.cells #[.int .i64 a0_0, .int .i64 a0_1, .string a0_2, .string a0_3, (.slice A0_4 l0_4.length c0_4)] 30 (0, 0))) ∧ Aside0 (w'.heap[gb151]? = some (.cells #[.int .i64 a1_0, .int .i64 a1_1, .string a1_2, .string a1_3, (.slice A1_4 l1_4.length c1_4)] 30 (0, 0))) ∧ Aside0 (w'.heap[gb152]? = some (.cells #[.int .i64 a2_0, .int .i64 a2_1, .string a2_2, .string a2_3, (.slice A2_4 l2_4.length c2_4)] 30 (0, 0))) ∧ Aside0 (Below w.heap.size w w'))
 case atStart => exact ⟨(0), (by first | rfl | (simp; done) | (simp [*]; done)), H', ⟨Nat.le_refl _⟩, ⟨by (with_reducible repeat (first | apply qz | apply qx | apply qy)); exact HO_10.out⟩, ⟨by (with_reducible repeat (first | refine qa ?_ _ | refine qb ?_ | refine qc ?_ _)); exact BK150.out⟩, ⟨by (with_reducible repeat (first | refine qa ?_ _ | refine qb ?_ | refine qc ?_ _)); exact BK151.out⟩, ⟨by (with_reducible repeat (first | refine qa ?_ _ | refine qb ?_ | refine qc ?_ _)); exact BK152.out⟩, ⟨by repeat (first | (with_reducible first | exact HB.out | apply qf | apply qn | apply qe | refine qd ?_ GE150.out | refine qd ?_ GE151.out | refine qd ?_ GE152.out) | exact HB.out)⟩⟩
 clear H'
 obtain ⟨x12_4, rfl, HA, HK4, HO_10, BK150, BK151, BK152, HB⟩ := hrel
 rcases gk with _ | k4
 · exact absurd HA.out (by simp [hearsaylaw02_TermOrder.l1])
 have H := HA.out
 clear HA
 simp only [hearsaylaw02_TermOrder.l1] at H
 by_cases c79 : x12_4 < 3
 rotate_left
 ·
  rw [if_neg c79] at H
  have c79b0 : decide (x12_4 < 3) = false := decide_eq_false c79
  clear c79
  have H' := Aside0.mk H
  clear H
  go_wp2
  go_roundg k4
  case measure => have := HJ6.out; have := HJ43.out; have := HK3.out; have := HK4.out; omega
  exact ⟨(wrap64 (x11_3 + 1)), (by first | rfl | (simp; done) | (simp [*]; done)), H', ⟨by have := HJ6.out; have := HJ43.out; have := HK3.out; have := HK4.out; omega⟩, ⟨by (with_reducible repeat (first | apply qz | apply qx | apply qy)); exact HO_10.out⟩, ⟨by (with_reducible repeat (first | refine qa ?_ _ | refine qb ?_ | refine qc ?_ _)); exact BK150.out⟩, ⟨by (with_reducible repeat (first | refine qa ?_ _ | refine qb ?_ | refine qc ?_ _)); exact BK151.out⟩, ⟨by (with_reducible repeat (first | refine qa ?_ _ | refine qb ?_ | refine qc ?_ _)); exact BK152.out⟩, ⟨by repeat (first | (with_reducible first | exact HB.out | apply qf | apply qn | apply qe | refine qd ?_ GE150.out | refine qd ?_ GE151.out | refine qd ?_ GE152.out) | exact HB.out)⟩⟩
 rw [if_pos c79] at H
 have c79b0 : decide (x12_4 < 3) = true := decide_eq_true c79
 clear c79
 by_cases c80 : 0 ≤ x11_3
 rotate_left
 · rw [if_neg c80] at H
   exact absurd H (by simp)
 rw [if_pos c80] at H
 have c80b0 : decide (0 ≤ x11_3) = true := decide_eq_true c80
 clear c80
 by_cases c81 : x11_3 < (y158.length : Int)
 rotate_left
 · rw [if_neg c81] at H
   exact absurd H (by simp)
 rw [if_pos c81] at H
 have c81b0 : decide (x11_3 < (y158.length : Int)) = true := decide_eq_true c81
 clear c81
 obtain ⟨y162, hy162⟩ : ∃ y_ : List (S23), y_ = (([(⟨(rd_T23 y158 x11_3).f0, (rd_T23 y158 x11_3).f1, (rd_T23 y158 x11_3).f2⟩ : S23)] : List (S23))) := ⟨_, rfl⟩
 replace H : (if 0 ≤ x12_4 then (if x12_4 < (y158.length : Int) then ((term_CompareAtoms.f k4 0 0 (⟨#[]⟩ : ByteArray) a0_3 y162 0 0 (⟨#[]⟩ : ByteArray) a0_3 (([(⟨(rd_T23 y158 x12_4).f0, (rd_T23 y158 x12_4).f1, (rd_T23 y158 x12_4).f2⟩ : S23)] : List (S23)))).bind fun t171 => ((term_Compare.f k4 ((rd_T23 y158 x11_3).f0) ((rd_T23 y158 x11_3).f1) ((rd_T23 y158 x11_3).f2) ((rd_T23 y158 x12_4).f0) ((rd_T23 y158 x12_4).f1) ((rd_T23 y158 x12_4).f2)).bind fun t174 => (if t171 = t174 then ((term_Compare.f k4 ((rd_T23 y158 x11_3).f0) ((rd_T23 y158 x11_3).f1) ((rd_T23 y158 x11_3).f2) ((rd_T23 y158 x12_4).f0) ((rd_T23 y158 x12_4).f1) ((rd_T23 y158 x12_4).f2)).bind fun t177 => (hearsaylaw02_TermOrder.j4 k4 y158 x11_3 x12_4 ((t177 == 0) != (((rd_T23 y158 x11_3).f0) == ((rd_T23 y158 x12_4).f0) && (((rd_T23 y158 x11_3).f1) == ((rd_T23 y158 x12_4).f1) && ((((rd_T23 y158 x11_3).f2).toList) == (((rd_T23 y158 x12_4).f2).toList))))) a0_0 a0_1 a0_2 a0_3 l0_4)) else (hearsaylaw02_TermOrder.j4 k4 y158 x11_3 x12_4 true a0_0 a0_1 a0_2 a0_3 l0_4)))) else (none)) else (none)) = some r := by first | (rw [hy162]; with_reducible exact H) | (have H2_ := (Option.bind_some _ _).symm.trans H; rw [hy162]; with_reducible exact H2_) | (have H2_ := (Option.bind_some _ _).symm.trans H; with_reducible exact H2_) | with_reducible exact H | (rw [hy162]; exact H) | exact H
 have Ny162 := Aside0.mk hy162
 clear hy162
 by_cases c82 : 0 ≤ x12_4
 rotate_left
 · rw [if_neg c82] at H
   exact absurd H (by simp)
 rw [if_pos c82] at H
 have c82b0 : decide (0 ≤ x12_4) = true := decide_eq_true c82
 clear c82
 by_cases c83 : x12_4 < (y158.length : Int)
 rotate_left
 · rw [if_neg c83] at H
   exact absurd H (by simp)
 rw [if_pos c83] at H
 have c83b0 : decide (x12_4 < (y158.length : Int)) = true := decide_eq_true c83
 clear c83
 obtain ⟨y167, hy167⟩ : ∃ y_ : List (S23), y_ = (([(⟨(rd_T23 y158 x12_4).f0, (rd_T23 y158 x12_4).f1, (rd_T23 y158 x12_4).f2⟩ : S23)] : List (S23))) := ⟨_, rfl⟩
 replace H : ((term_CompareAtoms.f k4 0 0 (⟨#[]⟩ : ByteArray) a0_3 y162 0 0 (⟨#[]⟩ : ByteArray) a0_3 y167).bind fun t171 => ((term_Compare.f k4 ((rd_T23 y158 x11_3).f0) ((rd_T23 y158 x11_3).f1) ((rd_T23 y158 x11_3).f2) ((rd_T23 y158 x12_4).f0) ((rd_T23 y158 x12_4).f1) ((rd_T23 y158 x12_4).f2)).bind fun t174 => (if t171 = t174 then ((term_Compare.f k4 ((rd_T23 y158 x11_3).f0) ((rd_T23 y158 x11_3).f1) ((rd_T23 y158 x11_3).f2) ((rd_T23 y158 x12_4).f0) ((rd_T23 y158 x12_4).f1) ((rd_T23 y158 x12_4).f2)).bind fun t177 => (hearsaylaw02_TermOrder.j4 k4 y158 x11_3 x12_4 ((t177 == 0) != (((rd_T23 y158 x11_3).f0) == ((rd_T23 y158 x12_4).f0) && (((rd_T23 y158 x11_3).f1) == ((rd_T23 y158 x12_4).f1) && ((((rd_T23 y158 x11_3).f2).toList) == (((rd_T23 y158 x12_4).f2).toList))))) a0_0 a0_1 a0_2 a0_3 l0_4)) else (hearsaylaw02_TermOrder.j4 k4 y158 x11_3 x12_4 true a0_0 a0_1 a0_2 a0_3 l0_4)))) = some r := by first | (rw [hy167]; with_reducible exact H) | (have H2_ := (Option.bind_some _ _).symm.trans H; rw [hy167]; with_reducible exact H2_) | (have H2_ := (Option.bind_some _ _).symm.trans H; with_reducible exact H2_) | with_reducible exact H | (rw [hy167]; exact H) | exact H
 have Ny167 := Aside0.mk hy167
 clear hy167
 have HC84 := Aside0.mk H
 clear H
 try go_wp2
 have n0_ := Aside0.mk (qy HO_10.out)
 have n1_ := Aside0.mk (qb BK150.out)
 have n2_ := Aside0.mk (qb BK151.out)
 have n3_ := Aside0.mk (qb BK152.out)
 have n4_ := Aside0.mk (qe HB.out)
 clear HO_10
 clear BK150
 clear BK151
 clear BK152
 clear HB
 have HO_10 := n0_
 have BK150 := n1_
 have BK151 := n2_
 have BK152 := n3_
 have HB := n4_
 clear n0_ n1_ n2_ n3_ n4_
 obtain ⟨Ao86, co86, eo86⟩ := Kd.R_slice HO_10.out
 (first | subst eo86 | (injection eo86 with f1_ f2_ f3_; have f4_ := f1_.symm; have f5_ := f3_.symm; clear f1_ f2_ f3_; subst f4_; subst f5_))
 have p161 : 0 ≤ (x11_3 : Int) := of_decide_eq_true (by first | (with_reducible assumption) | assumption)
 have q161 : x11_3 < (y158.length : Int) := of_decide_eq_true (by first | (with_reducible assumption) | assumption)
 obtain ⟨ad161, e161, hx161_0, hx161_1, hx161_2⟩ := at_T23 (Kd.R_reads' HO_10.out).2.2 x11_3 p161 q161
 cases e161
 replace p161 := eq_true p161
 replace q161 := eq_true q161
 refine start_ (n := 10) (S := fun w' => w'.cell? ⟨gb150, 0, none⟩ = some (.int .i64 a0_0) ∧ w'.cell? ⟨gb150, 1, none⟩ = some (.int .i64 a0_1) ∧ w'.cell? ⟨gb150, 2, none⟩ = some (.string a0_2) ∧ w'.cell? ⟨gb150, 3, none⟩ = some (.string a0_3) ∧ w'.cell? ⟨gb150, 4, none⟩ = some (.slice A0_4 l0_4.length c0_4) ∧ w'.cell? (ad161.add ((x11_3).toNat * 3)) = some (.int .i64 ((rd_T23 y158 x11_3).f0)) ∧ w'.cell? ⟨(ad161.add ((x11_3).toNat * 3)).block, (ad161.add ((x11_3).toNat * 3)).off + 1, none⟩ = some (.int .i64 ((rd_T23 y158 x11_3).f1)) ∧ w'.cell? ⟨(ad161.add ((x11_3).toNat * 3)).block, (ad161.add ((x11_3).toNat * 3)).off + 2, none⟩ = some (.string ((rd_T23 y158 x11_3).f2))) (ds := []) #[false, false, false, false, false, false, false, false, false, false] (by as_aux_lemma => kernel_rfl) rfl rfl ⟨(qh BK150.out 0).trans rfl, (qh BK150.out 1).trans rfl, (qh BK150.out 2).trans rfl, (qh BK150.out 3).trans rfl, (qh BK150.out 4).trans rfl, hx161_0, hx161_1, hx161_2⟩ (fun hHeld => ?_); refine with_tabW hearsaylaw02_TermOrder.tab15 hearsaylaw02_TermOrder.bits15 (fun HT_ HW_ => ?_)
 generalize wr.drew = w85 at HO_10 BK150 BK151 BK152 HB hx161_0 hx161_1 hx161_2 hHeld ⊢
 refine pure_ (i := 0) (N := some 95) (v := ?_) (a' := ?_) #[true, false, false, false, false, false, false, false, false, false] rfl rfl (any_of HT_.out (by as_aux_lemma => kernel_rfl)) (fun _ _ _ h => h) (Or.inl ⟨by rfl, ?_⟩) ?_ ?_
 rotate_left
 · intro w'
   go_simp
   with_reducible rfl
 rotate_left
 · simp only [Act.put, List.setIfInBounds_toArray, List.set_cons_zero, List.set_cons_succ, i64_w, i32_w]
   rfl
 refine pure_ (i := 2) (N := some 97) (v := ?_) (a' := ?_) #[true, false, true, false, false, false, false, false, false, false] rfl rfl (any_of HT_.out (by as_aux_lemma => kernel_rfl)) (fun _ _ _ h => h) (Or.inl ⟨by rfl, ?_⟩) ?_ ?_
 rotate_left
 · intro w'
   go_simp
   with_reducible rfl
 rotate_left
 · simp only [Act.put, List.setIfInBounds_toArray, List.set_cons_zero, List.set_cons_succ, i64_w, i32_w]
   rfl
 refine pure_ (i := 3) (N := some 98) (v := ?_) (a' := ?_) #[true, false, true, true, false, false, false, false, false, false] rfl rfl (any_of HT_.out (by as_aux_lemma => kernel_rfl)) (fun _ _ _ h => h) (Or.inl ⟨by rfl, ?_⟩) ?_ ?_
 rotate_left
 · intro w'
   go_simp
   with_reducible rfl
 rotate_left
 · simp only [Act.put, List.setIfInBounds_toArray, List.set_cons_zero, List.set_cons_succ, i64_w, i32_w]
   rfl
 refine pure_ (i := 4) (N := some 99) (v := ?_) (a' := ?_) #[true, false, true, true, true, false, false, false, false, false] rfl rfl (any_of HT_.out (by as_aux_lemma => kernel_rfl)) (fun _ _ _ h => h) (Or.inl ⟨by rfl, ?_⟩) ?_ ?_
 rotate_left
 · intro w'
   go_simp
   with_reducible rfl
 rotate_left
 · simp only [Act.put, List.setIfInBounds_toArray, List.set_cons_zero, List.set_cons_succ, i64_w, i32_w]
   rfl
 refine take_ (i := 1) (N := some 96) (v := ?_) (a' := ?_) #[true, true, true, true, true, false, false, false, false, false] rfl rfl (take_ofW HT_.out HW_.out (by as_aux_lemma => kernel_rfl)) (fun _ _ _ h => h) (Or.inl ⟨by rfl, ?_⟩) hHeld ?_ ?_
 rotate_left
 · rintro w' ⟨s0, s1, s2, s3, s4, s5, s6, s7⟩
   go_simp
   with_reducible rfl
 rotate_left
 · simp only [Act.put, List.setIfInBounds_toArray, List.set_cons_zero, List.set_cons_succ, i64_w, i32_w]
   rfl
 refine take_ (i := 5) (N := some 100) (v := ?_) (a' := ?_) #[true, true, true, true, true, true, false, false, false, false] rfl rfl (take_ofW HT_.out HW_.out (by as_aux_lemma => kernel_rfl)) (fun _ _ _ h => h) (Or.inl ⟨by rfl, ?_⟩) hHeld ?_ ?_
 rotate_left
 · rintro w' ⟨s0, s1, s2, s3, s4, s5, s6, s7⟩
   go_simp
   with_reducible rfl
 rotate_left
 · simp only [Act.put, List.setIfInBounds_toArray, List.set_cons_zero, List.set_cons_succ, i64_w, i32_w]
   rfl
 refine join_ (σ := Value × Nat) 1 #[true, true, true, true, true, true, true, true, true, false] (fun s_ => [(101, s_.1), (13, .pointer (some ⟨s_.2, 0, none⟩)), (102, .agg #[.int .i64 0, .int .i64 0, .string (⟨#[]⟩ : ByteArray), .string a0_3, s_.1])]) (fun s_ w' => (w'.cell? ⟨gb150, 0, none⟩ = some (.int .i64 a0_0) ∧ w'.cell? ⟨gb150, 1, none⟩ = some (.int .i64 a0_1) ∧ w'.cell? ⟨gb150, 2, none⟩ = some (.string a0_2) ∧ w'.cell? ⟨gb150, 3, none⟩ = some (.string a0_3) ∧ w'.cell? ⟨gb150, 4, none⟩ = some (.slice A0_4 l0_4.length c0_4) ∧ w'.cell? (ad161.add ((x11_3).toNat * 3)) = some (.int .i64 ((rd_T23 y158 x11_3).f0)) ∧ w'.cell? ⟨(ad161.add ((x11_3).toNat * 3)).block, (ad161.add ((x11_3).toNat * 3)).off + 1, none⟩ = some (.int .i64 ((rd_T23 y158 x11_3).f1)) ∧ w'.cell? ⟨(ad161.add ((x11_3).toNat * 3)).block, (ad161.add ((x11_3).toNat * 3)).off + 2, none⟩ = some (.string ((rd_T23 y158 x11_3).f2))) ∧ (Kd.R k23 23 w' w.heap.size (fun k_ => some k_ ≠ (.slice (some ad161) y158.length co86 : Value).ownBlock) s_.1 y162) ∧ (Kd.R k23 23 w' w.heap.size (fun k_ => some k_ ≠ (s_.1 : Value).ownBlock) (.slice (some ad161) y158.length co86) y158) ∧ (w'.heap[gb150]? = some (.cells #[.int .i64 a0_0, .int .i64 a0_1, .string a0_2, .string a0_3, .slice A0_4 l0_4.length c0_4] 30 (0, 0))) ∧ (w'.heap[gb151]? = some (.cells #[.int .i64 a1_0, .int .i64 a1_1, .string a1_2, .string a1_3, .slice A1_4 l1_4.length c1_4] 30 (0, 0))) ∧ (w'.heap[gb152]? = some (.cells #[.int .i64 a2_0, .int .i64 a2_1, .string a2_2, .string a2_3, .slice A2_4 l2_4.length c2_4] 30 (0, 0))) ∧ (w'.heap[s_.2]? = some (.cells #[.int .i64 0, .int .i64 0, .string (⟨#[]⟩ : ByteArray), .string (⟨#[]⟩ : ByteArray), .slice none 0 0] 30 (0, 0))) ∧ (w.heap.size ≤ s_.2) ∧ (w.heap.size ≤ s_.2) ∧ (gb150 ≠ s_.2) ∧ (s_.2 ≠ gb150) ∧ (gb151 ≠ s_.2) ∧ (s_.2 ≠ gb151) ∧ (gb152 ≠ s_.2) ∧ (s_.2 ≠ gb152) ∧ (Below w.heap.size w w')) ?_ ?_
 rotate_left
 · as_aux_lemma =>
     intro hCont
     refine two_ (i := 6) (j := 8) (Ni := some 101) (Nj := some 13) #[true, true, true, true, true, true, true, false, false, false] #[true, true, true, true, true, true, false, false, true, false] rfl rfl rfl rfl (two_of HT_.out (by as_aux_lemma => kernel_rfl)) (by decide) (by decide) (fun K hK => ?_) (fun K hK => ?_)
     ·
      skip
      refine Kd.R_lit_step k23 _ 23 ?hg (N := 101) ?hd (xs := ([(⟨(rd_T23 y158 x11_3).f0, (rd_T23 y158 x11_3).f1, (rd_T23 y158 x11_3).f2⟩ : S23)] : List (S23))) (inner := [.int .i64 ((rd_T23 y158 x11_3).f0), .int .i64 ((rd_T23 y158 x11_3).f1), .string ((rd_T23 y158 x11_3).f2)]) (ok := fun _ => True) (okp := fun _ => True) ?hr ?hp (fun _ hk => hk) trivial (Below.refl _ _) (Nat.le_refl _) (by simp) ?_; (case hd => rfl); (case hg => rfl); (case hr => first | (go_simp; done) | (go_simp; rfl)); (case hp => exact (Reps.c3 (show Kd.M k23 _ _ _ (⟨(rd_T23 y158 x11_3).f0, (rd_T23 y158 x11_3).f1, (rd_T23 y158 x11_3).f2⟩ : S23) [.int .i64 ((rd_T23 y158 x11_3).f0), .int .i64 ((rd_T23 y158 x11_3).f1), .string ((rd_T23 y158 x11_3).f2)] from (k23_mkM _ _ _ (⟨(rd_T23 y158 x11_3).f0, (rd_T23 y158 x11_3).f1, (rd_T23 y158 x11_3).f2⟩ : S23) )) (Reps.none _ _)))
      intro v163 w87 ho88 hb hg_ hnew_
      have HS5_ := (hb.cell (ql _ _ (hHeld.2.2.2.2.2.1))).trans (hHeld.2.2.2.2.2.1)
      have HS6_ := (hb.cell (ql _ _ (hHeld.2.2.2.2.2.2.1))).trans (hHeld.2.2.2.2.2.2.1)
      have HS7_ := (hb.cell (ql _ _ (hHeld.2.2.2.2.2.2.2))).trans (hHeld.2.2.2.2.2.2.2)
      clear hg_ hnew_
      (first | rw [← Ny162.out] at ho88 | (simp only [Int.reduceToNat] at ho88; rw [← Ny162.out] at ho88))
      have n0_ := Aside0.mk (Kd.R_elder' (by (with_reducible repeat (first | apply qz | apply qx | apply qy)); exact HO_10.out) (Kd.R_base ho88) hb)
      have n1_ := Aside0.mk (Kd.R_lower (Kd.R_new' ho88 (Kd.R_lt (by (with_reducible repeat (first | apply qz | apply qx | apply qy)); exact HO_10.out))) (below_size (by repeat (first | (with_reducible first | exact HB.out | apply qf | apply qn | apply qe | refine qd ?_ GE150.out | refine qd ?_ GE151.out | refine qd ?_ GE152.out) | exact HB.out))))
      have n2_ := Aside0.mk (qw (g := gb150) (o := .cells #[.int .i64 a0_0, .int .i64 a0_1, .string a0_2, .string a0_3, .slice A0_4 l0_4.length c0_4] 30 (0, 0)) (by (with_reducible repeat (first | refine qa ?_ _ | refine qb ?_ | refine qc ?_ _)); exact BK150.out) hb)
      have n3_ := Aside0.mk (qw (g := gb151) (o := .cells #[.int .i64 a1_0, .int .i64 a1_1, .string a1_2, .string a1_3, .slice A1_4 l1_4.length c1_4] 30 (0, 0)) (by (with_reducible repeat (first | refine qa ?_ _ | refine qb ?_ | refine qc ?_ _)); exact BK151.out) hb)
      have n4_ := Aside0.mk (qw (g := gb152) (o := .cells #[.int .i64 a2_0, .int .i64 a2_1, .string a2_2, .string a2_3, .slice A2_4 l2_4.length c2_4] 30 (0, 0)) (by (with_reducible repeat (first | refine qa ?_ _ | refine qb ?_ | refine qc ?_ _)); exact BK152.out) hb)
      have n5_ := Aside0.mk (below_step (by repeat (first | (with_reducible first | exact HB.out | apply qf | apply qn | apply qe | refine qd ?_ GE150.out | refine qd ?_ GE151.out | refine qd ?_ GE152.out) | exact HB.out)) hb)
      clear HO_10
      clear BK150
      clear BK151
      clear BK152
      clear HB
      have HO_10 := n0_
      have HO164 := n1_
      have BK150 := n2_
      have BK151 := n3_
      have BK152 := n4_
      have HB := n5_
      clear n0_ n1_ n2_ n3_ n4_ n5_
      clear hb ho88
      obtain ⟨Ao89, co89, eo89⟩ := Kd.R_slice HO164.out
      (first | subst eo89 | (injection eo89 with f1_ f2_ f3_; have f4_ := f1_.symm; have f5_ := f3_.symm; clear f1_ f2_ f3_; subst f4_; subst f5_))
      refine hK.out _ _ ⟨(qh BK150.out 0).trans rfl, (qh BK150.out 1).trans rfl, (qh BK150.out 2).trans rfl, (qh BK150.out 3).trans rfl, (qh BK150.out 4).trans rfl, HS5_, HS6_, HS7_⟩ (fun hHeld => ?_)
      clear hK K
      refine norm_ (a' := ?_) ?_ ?_
      rotate_left
      · show Act.put _ (some 101) _ = _
        simp only [Act.put, List.setIfInBounds_toArray, List.set_cons_zero, List.set_cons_succ, i64_w, i32_w]
        rfl
      refine pure_ (i := 7) (N := some 102) (v := ?_) (a' := ?_) #[true, true, true, true, true, true, true, true, false, false] rfl rfl (any_of HT_.out (by as_aux_lemma => kernel_rfl)) (fun _ _ _ h => h) (Or.inl ⟨by rfl, ?_⟩) ?_ ?_
      rotate_left
      · intro w'
        go_simp
        with_reducible rfl
      rotate_left
      · simp only [Act.put, List.setIfInBounds_toArray, List.set_cons_zero, List.set_cons_succ, i64_w, i32_w]
        rfl
      refine one_ (i := 8) (N := some 13) #[true, true, true, true, true, true, true, true, true, false] rfl rfl (one_of HT_.out (by as_aux_lemma => kernel_rfl)) (by decide) (fun K hK => ?_)
      refine box_step ?hg (N := 13) ?hd (cs := #[.int .i64 0, .int .i64 0, .string (⟨#[]⟩ : ByteArray), .string (⟨#[]⟩ : ByteArray), .slice none 0 0]) (t := 30) ?hr ?_; (case hd => rfl); (case hg => rfl); (case hr => first | (go_simp; done) | (go_simp; rfl))
      intro gb165 hg w90 hbox hb
      have HS5_ := (hb.cell (ql _ _ (hHeld.2.2.2.2.2.1))).trans (hHeld.2.2.2.2.2.1)
      have HS6_ := (hb.cell (ql _ _ (hHeld.2.2.2.2.2.2.1))).trans (hHeld.2.2.2.2.2.2.1)
      have HS7_ := (hb.cell (ql _ _ (hHeld.2.2.2.2.2.2.2))).trans (hHeld.2.2.2.2.2.2.2)
      have n0_ := Aside0.mk (Kd.R_below (by (with_reducible repeat (first | apply qz | apply qx | apply qy)); exact HO_10.out) hb)
      have n1_ := Aside0.mk (Kd.R_below (by (with_reducible repeat (first | apply qz | apply qx | apply qy)); exact HO164.out) hb)
      have n2_ := Aside0.mk (qw (g := gb150) (o := .cells #[.int .i64 a0_0, .int .i64 a0_1, .string a0_2, .string a0_3, .slice A0_4 l0_4.length c0_4] 30 (0, 0)) (by (with_reducible repeat (first | refine qa ?_ _ | refine qb ?_ | refine qc ?_ _)); exact BK150.out) hb)
      have n3_ := Aside0.mk (qw (g := gb151) (o := .cells #[.int .i64 a1_0, .int .i64 a1_1, .string a1_2, .string a1_3, .slice A1_4 l1_4.length c1_4] 30 (0, 0)) (by (with_reducible repeat (first | refine qa ?_ _ | refine qb ?_ | refine qc ?_ _)); exact BK151.out) hb)
      have n4_ := Aside0.mk (qw (g := gb152) (o := .cells #[.int .i64 a2_0, .int .i64 a2_1, .string a2_2, .string a2_3, .slice A2_4 l2_4.length c2_4] 30 (0, 0)) (by (with_reducible repeat (first | refine qa ?_ _ | refine qb ?_ | refine qc ?_ _)); exact BK152.out) hb)
      have n5_ := Aside0.mk (below_step (by repeat (first | (with_reducible first | exact HB.out | apply qf | apply qn | apply qe | refine qd ?_ GE150.out | refine qd ?_ GE151.out | refine qd ?_ GE152.out) | exact HB.out)) hb)
      have n6_ := Aside0.mk (hbox)
      have n7_ := Aside0.mk ((by rw [hg]; exact (below_size (by repeat (first | (with_reducible first | exact HB.out | apply qf | apply qn | apply qe | refine qd ?_ GE150.out | refine qd ?_ GE151.out | refine qd ?_ GE152.out) | exact HB.out))) : w.heap.size ≤ gb165))
      have n8_ := Aside0.mk ((by rw [hg]; exact (below_size (by repeat (first | (with_reducible first | exact HB.out | apply qf | apply qn | apply qe | refine qd ?_ GE150.out | refine qd ?_ GE151.out | refine qd ?_ GE152.out) | exact HB.out))) : w.heap.size ≤ gb165))
      have n9_ := Aside0.mk ((by rw [hg]; exact Nat.ne_of_lt (blk_lt (g := gb150) (o := .cells #[.int .i64 a0_0, .int .i64 a0_1, .string a0_2, .string a0_3, .slice A0_4 l0_4.length c0_4] 30 (0, 0)) (by (with_reducible repeat (first | refine qa ?_ _ | refine qb ?_ | refine qc ?_ _)); exact BK150.out)) : gb150 ≠ gb165))
      have n10_ := Aside0.mk ((by rw [hg]; exact Nat.ne_of_gt (blk_lt (g := gb150) (o := .cells #[.int .i64 a0_0, .int .i64 a0_1, .string a0_2, .string a0_3, .slice A0_4 l0_4.length c0_4] 30 (0, 0)) (by (with_reducible repeat (first | refine qa ?_ _ | refine qb ?_ | refine qc ?_ _)); exact BK150.out)) : gb165 ≠ gb150))
      have n11_ := Aside0.mk ((by rw [hg]; exact Nat.ne_of_lt (blk_lt (g := gb151) (o := .cells #[.int .i64 a1_0, .int .i64 a1_1, .string a1_2, .string a1_3, .slice A1_4 l1_4.length c1_4] 30 (0, 0)) (by (with_reducible repeat (first | refine qa ?_ _ | refine qb ?_ | refine qc ?_ _)); exact BK151.out)) : gb151 ≠ gb165))
      have n12_ := Aside0.mk ((by rw [hg]; exact Nat.ne_of_gt (blk_lt (g := gb151) (o := .cells #[.int .i64 a1_0, .int .i64 a1_1, .string a1_2, .string a1_3, .slice A1_4 l1_4.length c1_4] 30 (0, 0)) (by (with_reducible repeat (first | refine qa ?_ _ | refine qb ?_ | refine qc ?_ _)); exact BK151.out)) : gb165 ≠ gb151))
      have n13_ := Aside0.mk ((by rw [hg]; exact Nat.ne_of_lt (blk_lt (g := gb152) (o := .cells #[.int .i64 a2_0, .int .i64 a2_1, .string a2_2, .string a2_3, .slice A2_4 l2_4.length c2_4] 30 (0, 0)) (by (with_reducible repeat (first | refine qa ?_ _ | refine qb ?_ | refine qc ?_ _)); exact BK152.out)) : gb152 ≠ gb165))
      have n14_ := Aside0.mk ((by rw [hg]; exact Nat.ne_of_gt (blk_lt (g := gb152) (o := .cells #[.int .i64 a2_0, .int .i64 a2_1, .string a2_2, .string a2_3, .slice A2_4 l2_4.length c2_4] 30 (0, 0)) (by (with_reducible repeat (first | refine qa ?_ _ | refine qb ?_ | refine qc ?_ _)); exact BK152.out)) : gb165 ≠ gb152))
      clear HO_10
      clear HO164
      clear BK150
      clear BK151
      clear BK152
      clear HB
      have HO_10 := n0_
      have HO164 := n1_
      have BK150 := n2_
      have BK151 := n3_
      have BK152 := n4_
      have HB := n5_
      have BK165 := n6_
      have GW165 := n7_
      have GE165 := n8_
      have NB150_165 := n9_
      have NB165_150 := n10_
      have NB151_165 := n11_
      have NB165_151 := n12_
      have NB152_165 := n13_
      have NB165_152 := n14_
      clear n0_ n1_ n2_ n3_ n4_ n5_ n6_ n7_ n8_ n9_ n10_ n11_ n12_ n13_ n14_
      clear hb hbox hg
      refine hK.out _ _ ⟨(qh BK150.out 0).trans rfl, (qh BK150.out 1).trans rfl, (qh BK150.out 2).trans rfl, (qh BK150.out 3).trans rfl, (qh BK150.out 4).trans rfl, HS5_, HS6_, HS7_⟩ (fun hHeld => ?_)
      clear hK K
      refine norm_ (a' := ?_) ?_ ?_
      rotate_left
      · show Act.put _ (some 13) _ = _
        simp only [Act.put, List.setIfInBounds_toArray, List.set_cons_zero, List.set_cons_succ, i64_w, i32_w]
        rfl
      exact norm_ (by simp only [putAll, Act.put, List.setIfInBounds_toArray, List.set_cons_zero, List.set_cons_succ]) (hCont (.slice Ao89 y162.length co89, gb165) _ ⟨hHeld, (by (with_reducible repeat (first | apply qz | apply qx | apply qy)); exact Kd.R_mono HO164.out (fun _ hk => hk.2)), (by (with_reducible repeat (first | apply qz | apply qx | apply qy)); exact Kd.R_mono HO_10.out (fun _ hk => hk.2)), (by (with_reducible repeat (first | refine qa ?_ _ | refine qb ?_ | refine qc ?_ _)); exact BK150.out), (by (with_reducible repeat (first | refine qa ?_ _ | refine qb ?_ | refine qc ?_ _)); exact BK151.out), (by (with_reducible repeat (first | refine qa ?_ _ | refine qb ?_ | refine qc ?_ _)); exact BK152.out), (by (with_reducible repeat (first | refine qa ?_ _ | refine qb ?_ | refine qc ?_ _)); exact BK165.out), GW165.out, GE165.out, NB150_165.out, NB165_150.out, NB151_165.out, NB165_151.out, NB152_165.out, NB165_152.out, (by repeat (first | (with_reducible first | exact HB.out | apply qf | apply qn | apply qe | refine qd ?_ GE150.out | refine qd ?_ GE151.out | refine qd ?_ GE152.out | refine qd ?_ GE165.out) | exact HB.out))⟩)
     skip
     refine box_step ?hg (N := 13) ?hd (cs := #[.int .i64 0, .int .i64 0, .string (⟨#[]⟩ : ByteArray), .string (⟨#[]⟩ : ByteArray), .slice none 0 0]) (t := 30) ?hr ?_; (case hd => rfl); (case hg => rfl); (case hr => first | (go_simp; done) | (go_simp; rfl))
     intro gb165 hg w87 hbox hb
     have HS5_ := (hb.cell (ql _ _ (hHeld.2.2.2.2.2.1))).trans (hHeld.2.2.2.2.2.1)
     have HS6_ := (hb.cell (ql _ _ (hHeld.2.2.2.2.2.2.1))).trans (hHeld.2.2.2.2.2.2.1)
     have HS7_ := (hb.cell (ql _ _ (hHeld.2.2.2.2.2.2.2))).trans (hHeld.2.2.2.2.2.2.2)
     have n0_ := Aside0.mk (Kd.R_below (by (with_reducible repeat (first | apply qz | apply qx | apply qy)); exact HO_10.out) hb)
     have n1_ := Aside0.mk (qw (g := gb150) (o := .cells #[.int .i64 a0_0, .int .i64 a0_1, .string a0_2, .string a0_3, .slice A0_4 l0_4.length c0_4] 30 (0, 0)) (by (with_reducible repeat (first | refine qa ?_ _ | refine qb ?_ | refine qc ?_ _)); exact BK150.out) hb)
     have n2_ := Aside0.mk (qw (g := gb151) (o := .cells #[.int .i64 a1_0, .int .i64 a1_1, .string a1_2, .string a1_3, .slice A1_4 l1_4.length c1_4] 30 (0, 0)) (by (with_reducible repeat (first | refine qa ?_ _ | refine qb ?_ | refine qc ?_ _)); exact BK151.out) hb)
     have n3_ := Aside0.mk (qw (g := gb152) (o := .cells #[.int .i64 a2_0, .int .i64 a2_1, .string a2_2, .string a2_3, .slice A2_4 l2_4.length c2_4] 30 (0, 0)) (by (with_reducible repeat (first | refine qa ?_ _ | refine qb ?_ | refine qc ?_ _)); exact BK152.out) hb)
     have n4_ := Aside0.mk (below_step (by repeat (first | (with_reducible first | exact HB.out | apply qf | apply qn | apply qe | refine qd ?_ GE150.out | refine qd ?_ GE151.out | refine qd ?_ GE152.out) | exact HB.out)) hb)
     have n5_ := Aside0.mk (hbox)
     have n6_ := Aside0.mk ((by rw [hg]; exact (below_size (by repeat (first | (with_reducible first | exact HB.out | apply qf | apply qn | apply qe | refine qd ?_ GE150.out | refine qd ?_ GE151.out | refine qd ?_ GE152.out) | exact HB.out))) : w.heap.size ≤ gb165))
     have n7_ := Aside0.mk ((by rw [hg]; exact (below_size (by repeat (first | (with_reducible first | exact HB.out | apply qf | apply qn | apply qe | refine qd ?_ GE150.out | refine qd ?_ GE151.out | refine qd ?_ GE152.out) | exact HB.out))) : w.heap.size ≤ gb165))
     have n8_ := Aside0.mk ((by rw [hg]; exact Nat.ne_of_lt (blk_lt (g := gb150) (o := .cells #[.int .i64 a0_0, .int .i64 a0_1, .string a0_2, .string a0_3, .slice A0_4 l0_4.length c0_4] 30 (0, 0)) (by (with_reducible repeat (first | refine qa ?_ _ | refine qb ?_ | refine qc ?_ _)); exact BK150.out)) : gb150 ≠ gb165))
     have n9_ := Aside0.mk ((by rw [hg]; exact Nat.ne_of_gt (blk_lt (g := gb150) (o := .cells #[.int .i64 a0_0, .int .i64 a0_1, .string a0_2, .string a0_3, .slice A0_4 l0_4.length c0_4] 30 (0, 0)) (by (with_reducible repeat (first | refine qa ?_ _ | refine qb ?_ | refine qc ?_ _)); exact BK150.out)) : gb165 ≠ gb150))
     have n10_ := Aside0.mk ((by rw [hg]; exact Nat.ne_of_lt (blk_lt (g := gb151) (o := .cells #[.int .i64 a1_0, .int .i64 a1_1, .string a1_2, .string a1_3, .slice A1_4 l1_4.length c1_4] 30 (0, 0)) (by (with_reducible repeat (first | refine qa ?_ _ | refine qb ?_ | refine qc ?_ _)); exact BK151.out)) : gb151 ≠ gb165))
     have n11_ := Aside0.mk ((by rw [hg]; exact Nat.ne_of_gt (blk_lt (g := gb151) (o := .cells #[.int .i64 a1_0, .int .i64 a1_1, .string a1_2, .string a1_3, .slice A1_4 l1_4.length c1_4] 30 (0, 0)) (by (with_reducible repeat (first | refine qa ?_ _ | refine qb ?_ | refine qc ?_ _)); exact BK151.out)) : gb165 ≠ gb151))
     have n12_ := Aside0.mk ((by rw [hg]; exact Nat.ne_of_lt (blk_lt (g := gb152) (o := .cells #[.int .i64 a2_0, .int .i64 a2_1, .string a2_2, .string a2_3, .slice A2_4 l2_4.length c2_4] 30 (0, 0)) (by (with_reducible repeat (first | refine qa ?_ _ | refine qb ?_ | refine qc ?_ _)); exact BK152.out)) : gb152 ≠ gb165))
     have n13_ := Aside0.mk ((by rw [hg]; exact Nat.ne_of_gt (blk_lt (g := gb152) (o := .cells #[.int .i64 a2_0, .int .i64 a2_1, .string a2_2, .string a2_3, .slice A2_4 l2_4.length c2_4] 30 (0, 0)) (by (with_reducible repeat (first | refine qa ?_ _ | refine qb ?_ | refine qc ?_ _)); exact BK152.out)) : gb165 ≠ gb152))
     clear HO_10
     clear BK150
     clear BK151
     clear BK152
     clear HB
     have HO_10 := n0_
     have BK150 := n1_
     have BK151 := n2_
     have BK152 := n3_
     have HB := n4_
     have BK165 := n5_
     have GW165 := n6_
     have GE165 := n7_
     have NB150_165 := n8_
     have NB165_150 := n9_
     have NB151_165 := n10_
     have NB165_151 := n11_
     have NB152_165 := n12_
     have NB165_152 := n13_
     clear n0_ n1_ n2_ n3_ n4_ n5_ n6_ n7_ n8_ n9_ n10_ n11_ n12_ n13_
     clear hb hbox hg
     refine hK.out _ _ ⟨(qh BK150.out 0).trans rfl, (qh BK150.out 1).trans rfl, (qh BK150.out 2).trans rfl, (qh BK150.out 3).trans rfl, (qh BK150.out 4).trans rfl, HS5_, HS6_, HS7_⟩ (fun hHeld => ?_)
     clear hK K
     refine norm_ (a' := ?_) ?_ ?_
     rotate_left
     · show Act.put _ (some 13) _ = _
       simp only [Act.put, List.setIfInBounds_toArray, List.set_cons_zero, List.set_cons_succ, i64_w, i32_w]
       rfl
     refine one_ (i := 6) (N := some 101) #[true, true, true, true, true, true, true, false, true, false] rfl rfl (one_of HT_.out (by as_aux_lemma => kernel_rfl)) (by decide) (fun K hK => ?_)
     refine Kd.R_lit_step k23 _ 23 ?hg (N := 101) ?hd (xs := ([(⟨(rd_T23 y158 x11_3).f0, (rd_T23 y158 x11_3).f1, (rd_T23 y158 x11_3).f2⟩ : S23)] : List (S23))) (inner := [.int .i64 ((rd_T23 y158 x11_3).f0), .int .i64 ((rd_T23 y158 x11_3).f1), .string ((rd_T23 y158 x11_3).f2)]) (ok := fun _ => True) (okp := fun _ => True) ?hr ?hp (fun _ hk => hk) trivial (Below.refl _ _) (Nat.le_refl _) (by simp) ?_; (case hd => rfl); (case hg => rfl); (case hr => first | (go_simp; done) | (go_simp; rfl)); (case hp => exact (Reps.c3 (show Kd.M k23 _ _ _ (⟨(rd_T23 y158 x11_3).f0, (rd_T23 y158 x11_3).f1, (rd_T23 y158 x11_3).f2⟩ : S23) [.int .i64 ((rd_T23 y158 x11_3).f0), .int .i64 ((rd_T23 y158 x11_3).f1), .string ((rd_T23 y158 x11_3).f2)] from (k23_mkM _ _ _ (⟨(rd_T23 y158 x11_3).f0, (rd_T23 y158 x11_3).f1, (rd_T23 y158 x11_3).f2⟩ : S23) )) (Reps.none _ _)))
     intro v163 w88 ho89 hb hg_ hnew_
     have HS5_ := (hb.cell (ql _ _ (hHeld.2.2.2.2.2.1))).trans (hHeld.2.2.2.2.2.1)
     have HS6_ := (hb.cell (ql _ _ (hHeld.2.2.2.2.2.2.1))).trans (hHeld.2.2.2.2.2.2.1)
     have HS7_ := (hb.cell (ql _ _ (hHeld.2.2.2.2.2.2.2))).trans (hHeld.2.2.2.2.2.2.2)
     clear hg_ hnew_
     (first | rw [← Ny162.out] at ho89 | (simp only [Int.reduceToNat] at ho89; rw [← Ny162.out] at ho89))
     have n0_ := Aside0.mk (Kd.R_elder' (by (with_reducible repeat (first | apply qz | apply qx | apply qy)); exact HO_10.out) (Kd.R_base ho89) hb)
     have n1_ := Aside0.mk (Kd.R_lower (Kd.R_new' ho89 (Kd.R_lt (by (with_reducible repeat (first | apply qz | apply qx | apply qy)); exact HO_10.out))) (below_size (by repeat (first | (with_reducible first | exact HB.out | apply qf | apply qn | apply qe | refine qd ?_ GE150.out | refine qd ?_ GE151.out | refine qd ?_ GE152.out | refine qd ?_ GE165.out) | exact HB.out))))
     have n2_ := Aside0.mk (qw (g := gb150) (o := .cells #[.int .i64 a0_0, .int .i64 a0_1, .string a0_2, .string a0_3, .slice A0_4 l0_4.length c0_4] 30 (0, 0)) (by (with_reducible repeat (first | refine qa ?_ _ | refine qb ?_ | refine qc ?_ _)); exact BK150.out) hb)
     have n3_ := Aside0.mk (qw (g := gb151) (o := .cells #[.int .i64 a1_0, .int .i64 a1_1, .string a1_2, .string a1_3, .slice A1_4 l1_4.length c1_4] 30 (0, 0)) (by (with_reducible repeat (first | refine qa ?_ _ | refine qb ?_ | refine qc ?_ _)); exact BK151.out) hb)
     have n4_ := Aside0.mk (qw (g := gb152) (o := .cells #[.int .i64 a2_0, .int .i64 a2_1, .string a2_2, .string a2_3, .slice A2_4 l2_4.length c2_4] 30 (0, 0)) (by (with_reducible repeat (first | refine qa ?_ _ | refine qb ?_ | refine qc ?_ _)); exact BK152.out) hb)
     have n5_ := Aside0.mk (qw (g := gb165) (o := .cells #[.int .i64 0, .int .i64 0, .string (⟨#[]⟩ : ByteArray), .string (⟨#[]⟩ : ByteArray), .slice none 0 0] 30 (0, 0)) (by (with_reducible repeat (first | refine qa ?_ _ | refine qb ?_ | refine qc ?_ _)); exact BK165.out) hb)
     have n6_ := Aside0.mk (below_step (by repeat (first | (with_reducible first | exact HB.out | apply qf | apply qn | apply qe | refine qd ?_ GE150.out | refine qd ?_ GE151.out | refine qd ?_ GE152.out | refine qd ?_ GE165.out) | exact HB.out)) hb)
     clear HO_10
     clear BK150
     clear BK151
     clear BK152
     clear BK165
     clear HB
     have HO_10 := n0_
     have HO164 := n1_
     have BK150 := n2_
     have BK151 := n3_
     have BK152 := n4_
     have BK165 := n5_
     have HB := n6_
     clear n0_ n1_ n2_ n3_ n4_ n5_ n6_
     clear hb ho89
     obtain ⟨Ao90, co90, eo90⟩ := Kd.R_slice HO164.out
     (first | subst eo90 | (injection eo90 with f1_ f2_ f3_; have f4_ := f1_.symm; have f5_ := f3_.symm; clear f1_ f2_ f3_; subst f4_; subst f5_))
     refine hK.out _ _ ⟨(qh BK150.out 0).trans rfl, (qh BK150.out 1).trans rfl, (qh BK150.out 2).trans rfl, (qh BK150.out 3).trans rfl, (qh BK150.out 4).trans rfl, HS5_, HS6_, HS7_⟩ (fun hHeld => ?_)
     clear hK K
     refine norm_ (a' := ?_) ?_ ?_
     rotate_left
     · show Act.put _ (some 101) _ = _
       simp only [Act.put, List.setIfInBounds_toArray, List.set_cons_zero, List.set_cons_succ, i64_w, i32_w]
       rfl
     refine pure_ (i := 7) (N := some 102) (v := ?_) (a' := ?_) #[true, true, true, true, true, true, true, true, true, false] rfl rfl (any_of HT_.out (by as_aux_lemma => kernel_rfl)) (fun _ _ _ h => h) (Or.inl ⟨by rfl, ?_⟩) ?_ ?_
     rotate_left
     · intro w'
       go_simp
       with_reducible rfl
     rotate_left
     · simp only [Act.put, List.setIfInBounds_toArray, List.set_cons_zero, List.set_cons_succ, i64_w, i32_w]
       rfl
     exact norm_ (by simp only [putAll, Act.put, List.setIfInBounds_toArray, List.set_cons_zero, List.set_cons_succ]) (hCont (.slice Ao90 y162.length co90, gb165) _ ⟨hHeld, (by (with_reducible repeat (first | apply qz | apply qx | apply qy)); exact Kd.R_mono HO164.out (fun _ hk => hk.2)), (by (with_reducible repeat (first | apply qz | apply qx | apply qy)); exact Kd.R_mono HO_10.out (fun _ hk => hk.2)), (by (with_reducible repeat (first | refine qa ?_ _ | refine qb ?_ | refine qc ?_ _)); exact BK150.out), (by (with_reducible repeat (first | refine qa ?_ _ | refine qb ?_ | refine qc ?_ _)); exact BK151.out), (by (with_reducible repeat (first | refine qa ?_ _ | refine qb ?_ | refine qc ?_ _)); exact BK152.out), (by (with_reducible repeat (first | refine qa ?_ _ | refine qb ?_ | refine qc ?_ _)); exact BK165.out), GW165.out, GE165.out, NB150_165.out, NB165_150.out, NB151_165.out, NB165_151.out, NB152_165.out, NB165_152.out, (by repeat (first | (with_reducible first | exact HB.out | apply qf | apply qn | apply qe | refine qd ?_ GE150.out | refine qd ?_ GE151.out | refine qd ?_ GE152.out | refine qd ?_ GE165.out) | exact HB.out))⟩)
 rintro ⟨v163, gb165⟩ w91 ⟨hS_, h0_, h1_, h2_, h3_, h4_, h5_, h6_, h7_, h8_, h9_, h10_, h11_, h12_, h13_, h14_⟩
 have n0_ : Aside0 (Kd.R k23 23 w91 w.heap.size (fun k_ => some k_ ≠ (.slice (some ad161) y158.length co86 : Value).ownBlock) v163 y162) := ⟨h0_⟩
 have n1_ : Aside0 (Kd.R k23 23 w91 w.heap.size (fun k_ => some k_ ≠ (v163 : Value).ownBlock) (.slice (some ad161) y158.length co86) y158) := ⟨h1_⟩
 have n2_ : Aside0 (w91.heap[gb150]? = some (.cells #[.int .i64 a0_0, .int .i64 a0_1, .string a0_2, .string a0_3, .slice A0_4 l0_4.length c0_4] 30 (0, 0))) := ⟨h2_⟩
 have n3_ : Aside0 (w91.heap[gb151]? = some (.cells #[.int .i64 a1_0, .int .i64 a1_1, .string a1_2, .string a1_3, .slice A1_4 l1_4.length c1_4] 30 (0, 0))) := ⟨h3_⟩
 have n4_ : Aside0 (w91.heap[gb152]? = some (.cells #[.int .i64 a2_0, .int .i64 a2_1, .string a2_2, .string a2_3, .slice A2_4 l2_4.length c2_4] 30 (0, 0))) := ⟨h4_⟩
 have n5_ : Aside0 (w91.heap[gb165]? = some (.cells #[.int .i64 0, .int .i64 0, .string (⟨#[]⟩ : ByteArray), .string (⟨#[]⟩ : ByteArray), .slice none 0 0] 30 (0, 0))) := ⟨h5_⟩
 have n6_ : Aside0 (w.heap.size ≤ gb165) := ⟨h6_⟩
 have n7_ : Aside0 (w.heap.size ≤ gb165) := ⟨h7_⟩
 have n8_ : Aside0 (gb150 ≠ gb165) := ⟨h8_⟩
 have n9_ : Aside0 (gb165 ≠ gb150) := ⟨h9_⟩
 have n10_ : Aside0 (gb151 ≠ gb165) := ⟨h10_⟩
 have n11_ : Aside0 (gb165 ≠ gb151) := ⟨h11_⟩
 have n12_ : Aside0 (gb152 ≠ gb165) := ⟨h12_⟩
 have n13_ : Aside0 (gb165 ≠ gb152) := ⟨h13_⟩
 have n14_ : Aside0 (Below w.heap.size w w91) := ⟨h14_⟩
 clear HO_10
 clear BK150
 clear BK151
 clear BK152
 clear HB
 clear h0_ h1_ h2_ h3_ h4_ h5_ h6_ h7_ h8_ h9_ h10_ h11_ h12_ h13_ h14_
 have HO164 := n0_
 have HO_10 := n1_
 have BK150 := n2_
 have BK151 := n3_
 have BK152 := n4_
 have BK165 := n5_
 have GW165 := n6_
 have GE165 := n7_
 have NB150_165 := n8_
 have NB165_150 := n9_
 have NB151_165 := n10_
 have NB165_151 := n11_
 have NB152_165 := n12_
 have NB165_152 := n13_
 have HB := n14_
 clear n0_ n1_ n2_ n3_ n4_ n5_ n6_ n7_ n8_ n9_ n10_ n11_ n12_ n13_ n14_
 have hHeld : w91.cell? ⟨gb150, 0, none⟩ = some (.int .i64 a0_0) ∧ w91.cell? ⟨gb150, 1, none⟩ = some (.int .i64 a0_1) ∧ w91.cell? ⟨gb150, 2, none⟩ = some (.string a0_2) ∧ w91.cell? ⟨gb150, 3, none⟩ = some (.string a0_3) ∧ w91.cell? ⟨gb150, 4, none⟩ = some (.slice A0_4 l0_4.length c0_4) ∧ w91.cell? (ad161.add ((x11_3).toNat * 3)) = some (.int .i64 ((rd_T23 y158 x11_3).f0)) ∧ w91.cell? ⟨(ad161.add ((x11_3).toNat * 3)).block, (ad161.add ((x11_3).toNat * 3)).off + 1, none⟩ = some (.int .i64 ((rd_T23 y158 x11_3).f1)) ∧ w91.cell? ⟨(ad161.add ((x11_3).toNat * 3)).block, (ad161.add ((x11_3).toNat * 3)).off + 2, none⟩ = some (.string ((rd_T23 y158 x11_3).f2)) := hS_
 obtain ⟨Ao92, co92, eo92⟩ := Kd.R_slice HO164.out
 (first | subst eo92 | (injection eo92 with f1_ f2_ f3_; have f4_ := f1_.symm; have f5_ := f3_.symm; clear f1_ f2_ f3_; subst f4_; subst f5_))
 refine norm_ (a' := ?_) ?_ ?_
 rotate_left
 · simp only [putAll, Act.put, List.setIfInBounds_toArray, List.set_cons_zero, List.set_cons_succ]
   rfl
 refine one_ (i := 9) (N := none) #[true, true, true, true, true, true, true, true, true, true] rfl rfl (one_of HT_.out (by as_aux_lemma => kernel_rfl)) (by decide) (fun K hK => ?_)
 have hs93 : w91.cell? ⟨gb165, 0, none⟩ = some (.int .i64 0) := (qh BK165.out 0).trans rfl
 have hfs93 := qg BK165.out 0
 have hns93_0 := NB150_165.out
 have hns93_1 := NB151_165.out
 have hns93_2 := NB152_165.out
 have hms93_0 := NB165_150.out
 have hms93_1 := NB165_151.out
 have hms93_2 := NB165_152.out
 have hs94 : w91.cell? ⟨gb165, 1, none⟩ = some (.int .i64 0) := (qh BK165.out 1).trans rfl
 have hfs94 := qg BK165.out 1
 have hns94_0 := NB150_165.out
 have hns94_1 := NB151_165.out
 have hns94_2 := NB152_165.out
 have hms94_0 := NB165_150.out
 have hms94_1 := NB165_151.out
 have hms94_2 := NB165_152.out
 have hs95 : w91.cell? ⟨gb165, 2, none⟩ = some (.string (⟨#[]⟩ : ByteArray)) := (qh BK165.out 2).trans rfl
 have hfs95 := qg BK165.out 2
 have hns95_0 := NB150_165.out
 have hns95_1 := NB151_165.out
 have hns95_2 := NB152_165.out
 have hms95_0 := NB165_150.out
 have hms95_1 := NB165_151.out
 have hms95_2 := NB165_152.out
 have hs96 : w91.cell? ⟨gb165, 3, none⟩ = some (.string (⟨#[]⟩ : ByteArray)) := (qh BK165.out 3).trans rfl
 have hfs96 := qg BK165.out 3
 have hns96_0 := NB150_165.out
 have hns96_1 := NB151_165.out
 have hns96_2 := NB152_165.out
 have hms96_0 := NB165_150.out
 have hms96_1 := NB165_151.out
 have hms96_2 := NB165_152.out
 have hs97 : w91.cell? ⟨gb165, 4, none⟩ = some (.slice none 0 0) := (qh BK165.out 4).trans rfl
 have hfs97 := qg BK165.out 4
 have hns97_0 := NB150_165.out
 have hns97_1 := NB151_165.out
 have hns97_2 := NB152_165.out
 have hms97_0 := NB165_150.out
 have hms97_1 := NB165_151.out
 have hms97_2 := NB165_152.out
 refine skip_ (w1 := ?_) (by rfl) rfl ?_ ?_
 rotate_left
 · go_simp
   rfl
 refine hK.out _ _ ⟨((cell_far (p := ⟨gb165, _, none⟩) NB150_165.out _).trans (((cell_far (p := ⟨gb165, _, none⟩) NB150_165.out _).trans (((cell_far (p := ⟨gb165, _, none⟩) NB150_165.out _).trans (((cell_far (p := ⟨gb165, _, none⟩) NB150_165.out _).trans (((cell_far (p := ⟨gb165, _, none⟩) NB150_165.out _).trans (hHeld.1)))))))))), ((cell_far (p := ⟨gb165, _, none⟩) NB150_165.out _).trans (((cell_far (p := ⟨gb165, _, none⟩) NB150_165.out _).trans (((cell_far (p := ⟨gb165, _, none⟩) NB150_165.out _).trans (((cell_far (p := ⟨gb165, _, none⟩) NB150_165.out _).trans (((cell_far (p := ⟨gb165, _, none⟩) NB150_165.out _).trans (hHeld.2.1)))))))))), ((cell_far (p := ⟨gb165, _, none⟩) NB150_165.out _).trans (((cell_far (p := ⟨gb165, _, none⟩) NB150_165.out _).trans (((cell_far (p := ⟨gb165, _, none⟩) NB150_165.out _).trans (((cell_far (p := ⟨gb165, _, none⟩) NB150_165.out _).trans (((cell_far (p := ⟨gb165, _, none⟩) NB150_165.out _).trans (hHeld.2.2.1)))))))))), ((cell_far (p := ⟨gb165, _, none⟩) NB150_165.out _).trans (((cell_far (p := ⟨gb165, _, none⟩) NB150_165.out _).trans (((cell_far (p := ⟨gb165, _, none⟩) NB150_165.out _).trans (((cell_far (p := ⟨gb165, _, none⟩) NB150_165.out _).trans (((cell_far (p := ⟨gb165, _, none⟩) NB150_165.out _).trans (hHeld.2.2.2.1)))))))))), ((cell_far (p := ⟨gb165, _, none⟩) NB150_165.out _).trans (((cell_far (p := ⟨gb165, _, none⟩) NB150_165.out _).trans (((cell_far (p := ⟨gb165, _, none⟩) NB150_165.out _).trans (((cell_far (p := ⟨gb165, _, none⟩) NB150_165.out _).trans (((cell_far (p := ⟨gb165, _, none⟩) NB150_165.out _).trans (hHeld.2.2.2.2.1)))))))))), ((cell_far (p := ⟨gb165, _, none⟩) (by first | exact qi (qj HO_10.out BK165.out (by decide)) | (rw [add_block]; exact qi (qj HO_10.out BK165.out (by decide))) | (show (Addr.add _ _).block ≠ _; rw [add_block]; exact qi (qj HO_10.out BK165.out (by decide))) | (dsimp only; exact qi (qj HO_10.out BK165.out (by decide)))) _).trans (((cell_far (p := ⟨gb165, _, none⟩) (by first | exact qi (qj HO_10.out BK165.out (by decide)) | (rw [add_block]; exact qi (qj HO_10.out BK165.out (by decide))) | (show (Addr.add _ _).block ≠ _; rw [add_block]; exact qi (qj HO_10.out BK165.out (by decide))) | (dsimp only; exact qi (qj HO_10.out BK165.out (by decide)))) _).trans (((cell_far (p := ⟨gb165, _, none⟩) (by first | exact qi (qj HO_10.out BK165.out (by decide)) | (rw [add_block]; exact qi (qj HO_10.out BK165.out (by decide))) | (show (Addr.add _ _).block ≠ _; rw [add_block]; exact qi (qj HO_10.out BK165.out (by decide))) | (dsimp only; exact qi (qj HO_10.out BK165.out (by decide)))) _).trans (((cell_far (p := ⟨gb165, _, none⟩) (by first | exact qi (qj HO_10.out BK165.out (by decide)) | (rw [add_block]; exact qi (qj HO_10.out BK165.out (by decide))) | (show (Addr.add _ _).block ≠ _; rw [add_block]; exact qi (qj HO_10.out BK165.out (by decide))) | (dsimp only; exact qi (qj HO_10.out BK165.out (by decide)))) _).trans (((cell_far (p := ⟨gb165, _, none⟩) (by first | exact qi (qj HO_10.out BK165.out (by decide)) | (rw [add_block]; exact qi (qj HO_10.out BK165.out (by decide))) | (show (Addr.add _ _).block ≠ _; rw [add_block]; exact qi (qj HO_10.out BK165.out (by decide))) | (dsimp only; exact qi (qj HO_10.out BK165.out (by decide)))) _).trans (hHeld.2.2.2.2.2.1)))))))))), ((cell_far (p := ⟨gb165, _, none⟩) (by first | exact qi (qj HO_10.out BK165.out (by decide)) | (rw [add_block]; exact qi (qj HO_10.out BK165.out (by decide))) | (show (Addr.add _ _).block ≠ _; rw [add_block]; exact qi (qj HO_10.out BK165.out (by decide))) | (dsimp only; exact qi (qj HO_10.out BK165.out (by decide)))) _).trans (((cell_far (p := ⟨gb165, _, none⟩) (by first | exact qi (qj HO_10.out BK165.out (by decide)) | (rw [add_block]; exact qi (qj HO_10.out BK165.out (by decide))) | (show (Addr.add _ _).block ≠ _; rw [add_block]; exact qi (qj HO_10.out BK165.out (by decide))) | (dsimp only; exact qi (qj HO_10.out BK165.out (by decide)))) _).trans (((cell_far (p := ⟨gb165, _, none⟩) (by first | exact qi (qj HO_10.out BK165.out (by decide)) | (rw [add_block]; exact qi (qj HO_10.out BK165.out (by decide))) | (show (Addr.add _ _).block ≠ _; rw [add_block]; exact qi (qj HO_10.out BK165.out (by decide))) | (dsimp only; exact qi (qj HO_10.out BK165.out (by decide)))) _).trans (((cell_far (p := ⟨gb165, _, none⟩) (by first | exact qi (qj HO_10.out BK165.out (by decide)) | (rw [add_block]; exact qi (qj HO_10.out BK165.out (by decide))) | (show (Addr.add _ _).block ≠ _; rw [add_block]; exact qi (qj HO_10.out BK165.out (by decide))) | (dsimp only; exact qi (qj HO_10.out BK165.out (by decide)))) _).trans (((cell_far (p := ⟨gb165, _, none⟩) (by first | exact qi (qj HO_10.out BK165.out (by decide)) | (rw [add_block]; exact qi (qj HO_10.out BK165.out (by decide))) | (show (Addr.add _ _).block ≠ _; rw [add_block]; exact qi (qj HO_10.out BK165.out (by decide))) | (dsimp only; exact qi (qj HO_10.out BK165.out (by decide)))) _).trans (hHeld.2.2.2.2.2.2.1)))))))))), ((cell_far (p := ⟨gb165, _, none⟩) (by first | exact qi (qj HO_10.out BK165.out (by decide)) | (rw [add_block]; exact qi (qj HO_10.out BK165.out (by decide))) | (show (Addr.add _ _).block ≠ _; rw [add_block]; exact qi (qj HO_10.out BK165.out (by decide))) | (dsimp only; exact qi (qj HO_10.out BK165.out (by decide)))) _).trans (((cell_far (p := ⟨gb165, _, none⟩) (by first | exact qi (qj HO_10.out BK165.out (by decide)) | (rw [add_block]; exact qi (qj HO_10.out BK165.out (by decide))) | (show (Addr.add _ _).block ≠ _; rw [add_block]; exact qi (qj HO_10.out BK165.out (by decide))) | (dsimp only; exact qi (qj HO_10.out BK165.out (by decide)))) _).trans (((cell_far (p := ⟨gb165, _, none⟩) (by first | exact qi (qj HO_10.out BK165.out (by decide)) | (rw [add_block]; exact qi (qj HO_10.out BK165.out (by decide))) | (show (Addr.add _ _).block ≠ _; rw [add_block]; exact qi (qj HO_10.out BK165.out (by decide))) | (dsimp only; exact qi (qj HO_10.out BK165.out (by decide)))) _).trans (((cell_far (p := ⟨gb165, _, none⟩) (by first | exact qi (qj HO_10.out BK165.out (by decide)) | (rw [add_block]; exact qi (qj HO_10.out BK165.out (by decide))) | (show (Addr.add _ _).block ≠ _; rw [add_block]; exact qi (qj HO_10.out BK165.out (by decide))) | (dsimp only; exact qi (qj HO_10.out BK165.out (by decide)))) _).trans (((cell_far (p := ⟨gb165, _, none⟩) (by first | exact qi (qj HO_10.out BK165.out (by decide)) | (rw [add_block]; exact qi (qj HO_10.out BK165.out (by decide))) | (show (Addr.add _ _).block ≠ _; rw [add_block]; exact qi (qj HO_10.out BK165.out (by decide))) | (dsimp only; exact qi (qj HO_10.out BK165.out (by decide)))) _).trans (hHeld.2.2.2.2.2.2.2))))))))))⟩ (fun hHeld => ?_)
 clear hK K
 refine done_ (done_of HT_.out (by as_aux_lemma => kernel_rfl)) ?_
 try go_wp2
 have n0_ : Aside0 (Kd.R k23 23 (((((w91.setCell ⟨gb165, 0, none⟩ (.int .i64 0)).setCell ⟨gb165, 1, none⟩ (.int .i64 0)).setCell ⟨gb165, 2, none⟩ (.string (⟨#[]⟩ : ByteArray))).setCell ⟨gb165, 3, none⟩ (.string a0_3)).setCell ⟨gb165, 4, none⟩ (.slice Ao92 y162.length co92)) w.heap.size (fun k_ => some k_ ≠ (.slice Ao92 y162.length co92 : Value).ownBlock) (.slice (some ad161) y158.length co86) y158) := ⟨by (with_reducible repeat (first | apply qz | apply qx | apply qy)); exact Kd.R_mono (Kd.R_far (p := ⟨gb165, 4, none⟩) (Kd.R_far (p := ⟨gb165, 3, none⟩) (Kd.R_far (p := ⟨gb165, 2, none⟩) (Kd.R_far (p := ⟨gb165, 1, none⟩) (Kd.R_far (p := ⟨gb165, 0, none⟩) (Kd.R_types HO_10.out BK165.out (by decide)) (fun _ hk => hk.2) (.int .i64 0)) (fun _ hk => hk.2) (.int .i64 0)) (fun _ hk => hk.2) (.string (⟨#[]⟩ : ByteArray))) (fun _ hk => hk.2) (.string a0_3)) (fun _ hk => hk.2) (.slice Ao92 y162.length co92)) (fun _ hk => hk.1)⟩
 have n1_ : Aside0 (Kd.R k23 23 (((((w91.setCell ⟨gb165, 0, none⟩ (.int .i64 0)).setCell ⟨gb165, 1, none⟩ (.int .i64 0)).setCell ⟨gb165, 2, none⟩ (.string (⟨#[]⟩ : ByteArray))).setCell ⟨gb165, 3, none⟩ (.string a0_3)).setCell ⟨gb165, 4, none⟩ (.slice Ao92 y162.length co92)) w.heap.size (fun k_ => some k_ ≠ (.slice (some ad161) y158.length co86 : Value).ownBlock) (.slice Ao92 y162.length co92) y162) := ⟨by (with_reducible repeat (first | apply qz | apply qx | apply qy)); exact Kd.R_mono (Kd.R_far (p := ⟨gb165, 4, none⟩) (Kd.R_far (p := ⟨gb165, 3, none⟩) (Kd.R_far (p := ⟨gb165, 2, none⟩) (Kd.R_far (p := ⟨gb165, 1, none⟩) (Kd.R_far (p := ⟨gb165, 0, none⟩) (Kd.R_types HO164.out BK165.out (by decide)) (fun _ hk => hk.2) (.int .i64 0)) (fun _ hk => hk.2) (.int .i64 0)) (fun _ hk => hk.2) (.string (⟨#[]⟩ : ByteArray))) (fun _ hk => hk.2) (.string a0_3)) (fun _ hk => hk.2) (.slice Ao92 y162.length co92)) (fun _ hk => hk.1)⟩
 have n2_ : Aside0 ((((((w91.setCell ⟨gb165, 0, none⟩ (.int .i64 0)).setCell ⟨gb165, 1, none⟩ (.int .i64 0)).setCell ⟨gb165, 2, none⟩ (.string (⟨#[]⟩ : ByteArray))).setCell ⟨gb165, 3, none⟩ (.string a0_3)).setCell ⟨gb165, 4, none⟩ (.slice Ao92 y162.length co92)).heap[gb150]? = some (.cells #[.int .i64 a0_0, .int .i64 a0_1, .string a0_2, .string a0_3, .slice A0_4 l0_4.length c0_4] 30 (0, 0))) := ⟨by (with_reducible repeat (first | refine qa ?_ _ | refine qb ?_ | refine qc ?_ _)); refine blk_far ?_ NB150_165.out _; (with_reducible repeat (first | refine qa ?_ _ | refine qb ?_ | refine qc ?_ _)); refine blk_far ?_ NB150_165.out _; (with_reducible repeat (first | refine qa ?_ _ | refine qb ?_ | refine qc ?_ _)); refine blk_far ?_ NB150_165.out _; (with_reducible repeat (first | refine qa ?_ _ | refine qb ?_ | refine qc ?_ _)); refine blk_far ?_ NB150_165.out _; (with_reducible repeat (first | refine qa ?_ _ | refine qb ?_ | refine qc ?_ _)); refine blk_far ?_ NB150_165.out _; (with_reducible repeat (first | refine qa ?_ _ | refine qb ?_ | refine qc ?_ _)); exact BK150.out⟩
 have n3_ : Aside0 ((((((w91.setCell ⟨gb165, 0, none⟩ (.int .i64 0)).setCell ⟨gb165, 1, none⟩ (.int .i64 0)).setCell ⟨gb165, 2, none⟩ (.string (⟨#[]⟩ : ByteArray))).setCell ⟨gb165, 3, none⟩ (.string a0_3)).setCell ⟨gb165, 4, none⟩ (.slice Ao92 y162.length co92)).heap[gb151]? = some (.cells #[.int .i64 a1_0, .int .i64 a1_1, .string a1_2, .string a1_3, .slice A1_4 l1_4.length c1_4] 30 (0, 0))) := ⟨by (with_reducible repeat (first | refine qa ?_ _ | refine qb ?_ | refine qc ?_ _)); refine blk_far ?_ NB151_165.out _; (with_reducible repeat (first | refine qa ?_ _ | refine qb ?_ | refine qc ?_ _)); refine blk_far ?_ NB151_165.out _; (with_reducible repeat (first | refine qa ?_ _ | refine qb ?_ | refine qc ?_ _)); refine blk_far ?_ NB151_165.out _; (with_reducible repeat (first | refine qa ?_ _ | refine qb ?_ | refine qc ?_ _)); refine blk_far ?_ NB151_165.out _; (with_reducible repeat (first | refine qa ?_ _ | refine qb ?_ | refine qc ?_ _)); refine blk_far ?_ NB151_165.out _; (with_reducible repeat (first | refine qa ?_ _ | refine qb ?_ | refine qc ?_ _)); exact BK151.out⟩
 have n4_ : Aside0 ((((((w91.setCell ⟨gb165, 0, none⟩ (.int .i64 0)).setCell ⟨gb165, 1, none⟩ (.int .i64 0)).setCell ⟨gb165, 2, none⟩ (.string (⟨#[]⟩ : ByteArray))).setCell ⟨gb165, 3, none⟩ (.string a0_3)).setCell ⟨gb165, 4, none⟩ (.slice Ao92 y162.length co92)).heap[gb152]? = some (.cells #[.int .i64 a2_0, .int .i64 a2_1, .string a2_2, .string a2_3, .slice A2_4 l2_4.length c2_4] 30 (0, 0))) := ⟨by (with_reducible repeat (first | refine qa ?_ _ | refine qb ?_ | refine qc ?_ _)); refine blk_far ?_ NB152_165.out _; (with_reducible repeat (first | refine qa ?_ _ | refine qb ?_ | refine qc ?_ _)); refine blk_far ?_ NB152_165.out _; (with_reducible repeat (first | refine qa ?_ _ | refine qb ?_ | refine qc ?_ _)); refine blk_far ?_ NB152_165.out _; (with_reducible repeat (first | refine qa ?_ _ | refine qb ?_ | refine qc ?_ _)); refine blk_far ?_ NB152_165.out _; (with_reducible repeat (first | refine qa ?_ _ | refine qb ?_ | refine qc ?_ _)); refine blk_far ?_ NB152_165.out _; (with_reducible repeat (first | refine qa ?_ _ | refine qb ?_ | refine qc ?_ _)); exact BK152.out⟩
 have n5_ : Aside0 ((((((w91.setCell ⟨gb165, 0, none⟩ (.int .i64 0)).setCell ⟨gb165, 1, none⟩ (.int .i64 0)).setCell ⟨gb165, 2, none⟩ (.string (⟨#[]⟩ : ByteArray))).setCell ⟨gb165, 3, none⟩ (.string a0_3)).setCell ⟨gb165, 4, none⟩ (.slice Ao92 y162.length co92)).heap[gb165]? = some (.cells #[.int .i64 0, .int .i64 0, .string (⟨#[]⟩ : ByteArray), .string a0_3, .slice Ao92 y162.length co92] 30 (0, 0))) := ⟨by (with_reducible repeat (first | refine qa ?_ _ | refine qb ?_ | refine qc ?_ _)); refine blk_put (cs := #[.int .i64 0, .int .i64 0, .string (⟨#[]⟩ : ByteArray), .string a0_3, .slice none 0 0]) ?_ 4 _ rfl; (with_reducible repeat (first | refine qa ?_ _ | refine qb ?_ | refine qc ?_ _)); refine blk_put (cs := #[.int .i64 0, .int .i64 0, .string (⟨#[]⟩ : ByteArray), .string (⟨#[]⟩ : ByteArray), .slice none 0 0]) ?_ 3 _ rfl; (with_reducible repeat (first | refine qa ?_ _ | refine qb ?_ | refine qc ?_ _)); refine blk_put (cs := #[.int .i64 0, .int .i64 0, .string (⟨#[]⟩ : ByteArray), .string (⟨#[]⟩ : ByteArray), .slice none 0 0]) ?_ 2 _ rfl; (with_reducible repeat (first | refine qa ?_ _ | refine qb ?_ | refine qc ?_ _)); refine blk_put (cs := #[.int .i64 0, .int .i64 0, .string (⟨#[]⟩ : ByteArray), .string (⟨#[]⟩ : ByteArray), .slice none 0 0]) ?_ 1 _ rfl; (with_reducible repeat (first | refine qa ?_ _ | refine qb ?_ | refine qc ?_ _)); refine blk_put (cs := #[.int .i64 0, .int .i64 0, .string (⟨#[]⟩ : ByteArray), .string (⟨#[]⟩ : ByteArray), .slice none 0 0]) ?_ 0 _ rfl; (with_reducible repeat (first | refine qa ?_ _ | refine qb ?_ | refine qc ?_ _)); exact BK165.out⟩
 have n6_ : Aside0 (Below w.heap.size w (((((w91.setCell ⟨gb165, 0, none⟩ (.int .i64 0)).setCell ⟨gb165, 1, none⟩ (.int .i64 0)).setCell ⟨gb165, 2, none⟩ (.string (⟨#[]⟩ : ByteArray))).setCell ⟨gb165, 3, none⟩ (.string a0_3)).setCell ⟨gb165, 4, none⟩ (.slice Ao92 y162.length co92))) := ⟨by repeat (first | (with_reducible first | exact HB.out | apply qf | apply qn | apply qe | refine qd ?_ GE150.out | refine qd ?_ GE151.out | refine qd ?_ GE152.out | refine qd ?_ GE165.out) | exact HB.out)⟩
 (try clear HO_10)
 (try clear HO164)
 (try clear BK150)
 (try clear BK151)
 (try clear BK152)
 (try clear BK165)
 (try clear HB)
 generalize (((((w91.setCell ⟨gb165, 0, none⟩ (.int .i64 0)).setCell ⟨gb165, 1, none⟩ (.int .i64 0)).setCell ⟨gb165, 2, none⟩ (.string (⟨#[]⟩ : ByteArray))).setCell ⟨gb165, 3, none⟩ (.string a0_3)).setCell ⟨gb165, 4, none⟩ (.slice Ao92 y162.length co92)) = w98 at n0_ n1_ n2_ n3_ n4_ n5_ n6_ ⊢
 have HO_10 := n0_
 have HO164 := n1_
 have BK150 := n2_
 have BK151 := n3_
 have BK152 := n4_
 have BK165 := n5_
 have HB := n6_
 clear n0_ n1_ n2_ n3_ n4_ n5_ n6_
 have n0_ := Aside0.mk (qy HO_10.out)
 have n1_ := Aside0.mk (qy HO164.out)
 have n2_ := Aside0.mk (qb BK150.out)
 have n3_ := Aside0.mk (qb BK151.out)
 have n4_ := Aside0.mk (qb BK152.out)
 have n5_ := Aside0.mk (qb BK165.out)
 have n6_ := Aside0.mk (qe HB.out)
 clear HO_10
 clear HO164
 clear BK150
 clear BK151
 clear BK152
 clear BK165
 clear HB
 have HO_10 := n0_
 have HO164 := n1_
 have BK150 := n2_
 have BK151 := n3_
 have BK152 := n4_
 have BK165 := n5_
 have HB := n6_
 clear n0_ n1_ n2_ n3_ n4_ n5_ n6_
 have p166 : 0 ≤ (x12_4 : Int) := of_decide_eq_true (by first | (with_reducible assumption) | assumption)
 have q166 : x12_4 < (y158.length : Int) := of_decide_eq_true (by first | (with_reducible assumption) | assumption)
 obtain ⟨ad166, e166, hx166_0, hx166_1, hx166_2⟩ := at_T23 (Kd.R_reads' HO_10.out).2.2 x12_4 p166 q166
 obtain rfl : ad161 = ad166 := (by injection e166)
 replace p166 := eq_true p166
 replace q166 := eq_true q166
 refine start_ (n := 10) (S := fun w' => w'.cell? ⟨gb150, 0, none⟩ = some (.int .i64 a0_0) ∧ w'.cell? ⟨gb150, 1, none⟩ = some (.int .i64 a0_1) ∧ w'.cell? ⟨gb150, 2, none⟩ = some (.string a0_2) ∧ w'.cell? ⟨gb150, 3, none⟩ = some (.string a0_3) ∧ w'.cell? ⟨gb150, 4, none⟩ = some (.slice A0_4 l0_4.length c0_4) ∧ w'.cell? (ad161.add ((x12_4).toNat * 3)) = some (.int .i64 ((rd_T23 y158 x12_4).f0)) ∧ w'.cell? ⟨(ad161.add ((x12_4).toNat * 3)).block, (ad161.add ((x12_4).toNat * 3)).off + 1, none⟩ = some (.int .i64 ((rd_T23 y158 x12_4).f1)) ∧ w'.cell? ⟨(ad161.add ((x12_4).toNat * 3)).block, (ad161.add ((x12_4).toNat * 3)).off + 2, none⟩ = some (.string ((rd_T23 y158 x12_4).f2))) (ds := []) #[false, false, false, false, false, false, false, false, false, false] (by as_aux_lemma => kernel_rfl) rfl rfl ⟨(qh BK150.out 0).trans rfl, (qh BK150.out 1).trans rfl, (qh BK150.out 2).trans rfl, (qh BK150.out 3).trans rfl, (qh BK150.out 4).trans rfl, hx166_0, hx166_1, hx166_2⟩ (fun hHeld => ?_); refine with_tabW hearsaylaw02_TermOrder.tab16 hearsaylaw02_TermOrder.bits16 (fun HT_ HW_ => ?_)
 generalize w98.drew = w99 at HO_10 HO164 BK150 BK151 BK152 BK165 HB hx166_0 hx166_1 hx166_2 hHeld ⊢
 refine pure_ (i := 0) (N := some 103) (v := ?_) (a' := ?_) #[true, false, false, false, false, false, false, false, false, false] rfl rfl (any_of HT_.out (by as_aux_lemma => kernel_rfl)) (fun _ _ _ h => h) (Or.inl ⟨by rfl, ?_⟩) ?_ ?_
 rotate_left
 · intro w'
   go_simp
   with_reducible rfl
 rotate_left
 · simp only [Act.put, List.setIfInBounds_toArray, List.set_cons_zero, List.set_cons_succ, i64_w, i32_w]
   rfl
 refine pure_ (i := 2) (N := some 105) (v := ?_) (a' := ?_) #[true, false, true, false, false, false, false, false, false, false] rfl rfl (any_of HT_.out (by as_aux_lemma => kernel_rfl)) (fun _ _ _ h => h) (Or.inl ⟨by rfl, ?_⟩) ?_ ?_
 rotate_left
 · intro w'
   go_simp
   with_reducible rfl
 rotate_left
 · simp only [Act.put, List.setIfInBounds_toArray, List.set_cons_zero, List.set_cons_succ, i64_w, i32_w]
   rfl
 refine pure_ (i := 3) (N := some 106) (v := ?_) (a' := ?_) #[true, false, true, true, false, false, false, false, false, false] rfl rfl (any_of HT_.out (by as_aux_lemma => kernel_rfl)) (fun _ _ _ h => h) (Or.inl ⟨by rfl, ?_⟩) ?_ ?_
 rotate_left
 · intro w'
   go_simp
   with_reducible rfl
 rotate_left
 · simp only [Act.put, List.setIfInBounds_toArray, List.set_cons_zero, List.set_cons_succ, i64_w, i32_w]
   rfl
 refine pure_ (i := 4) (N := some 107) (v := ?_) (a' := ?_) #[true, false, true, true, true, false, false, false, false, false] rfl rfl (any_of HT_.out (by as_aux_lemma => kernel_rfl)) (fun _ _ _ h => h) (Or.inl ⟨by rfl, ?_⟩) ?_ ?_
 rotate_left
 · intro w'
   go_simp
   with_reducible rfl
 rotate_left
 · simp only [Act.put, List.setIfInBounds_toArray, List.set_cons_zero, List.set_cons_succ, i64_w, i32_w]
   rfl
 refine take_ (i := 1) (N := some 104) (v := ?_) (a' := ?_) #[true, true, true, true, true, false, false, false, false, false] rfl rfl (take_ofW HT_.out HW_.out (by as_aux_lemma => kernel_rfl)) (fun _ _ _ h => h) (Or.inl ⟨by rfl, ?_⟩) hHeld ?_ ?_
 rotate_left
 · rintro w' ⟨s0, s1, s2, s3, s4, s5, s6, s7⟩
   go_simp
   with_reducible rfl
 rotate_left
 · simp only [Act.put, List.setIfInBounds_toArray, List.set_cons_zero, List.set_cons_succ, i64_w, i32_w]
   rfl
 refine take_ (i := 5) (N := some 108) (v := ?_) (a' := ?_) #[true, true, true, true, true, true, false, false, false, false] rfl rfl (take_ofW HT_.out HW_.out (by as_aux_lemma => kernel_rfl)) (fun _ _ _ h => h) (Or.inl ⟨by rfl, ?_⟩) hHeld ?_ ?_
 rotate_left
 · rintro w' ⟨s0, s1, s2, s3, s4, s5, s6, s7⟩
   go_simp
   with_reducible rfl
 rotate_left
 · simp only [Act.put, List.setIfInBounds_toArray, List.set_cons_zero, List.set_cons_succ, i64_w, i32_w]
   rfl
 refine join_ (σ := Value × Nat) 1 #[true, true, true, true, true, true, true, true, true, false] (fun s_ => [(109, s_.1), (14, .pointer (some ⟨s_.2, 0, none⟩)), (110, .agg #[.int .i64 0, .int .i64 0, .string (⟨#[]⟩ : ByteArray), .string a0_3, s_.1])]) (fun s_ w' => (w'.cell? ⟨gb150, 0, none⟩ = some (.int .i64 a0_0) ∧ w'.cell? ⟨gb150, 1, none⟩ = some (.int .i64 a0_1) ∧ w'.cell? ⟨gb150, 2, none⟩ = some (.string a0_2) ∧ w'.cell? ⟨gb150, 3, none⟩ = some (.string a0_3) ∧ w'.cell? ⟨gb150, 4, none⟩ = some (.slice A0_4 l0_4.length c0_4) ∧ w'.cell? (ad161.add ((x12_4).toNat * 3)) = some (.int .i64 ((rd_T23 y158 x12_4).f0)) ∧ w'.cell? ⟨(ad161.add ((x12_4).toNat * 3)).block, (ad161.add ((x12_4).toNat * 3)).off + 1, none⟩ = some (.int .i64 ((rd_T23 y158 x12_4).f1)) ∧ w'.cell? ⟨(ad161.add ((x12_4).toNat * 3)).block, (ad161.add ((x12_4).toNat * 3)).off + 2, none⟩ = some (.string ((rd_T23 y158 x12_4).f2))) ∧ (Kd.R k23 23 w' w.heap.size (fun k_ => some k_ ≠ (s_.1 : Value).ownBlock ∧ some k_ ≠ (.slice (some ad161) y158.length co86 : Value).ownBlock) (.slice Ao92 y162.length co92) y162) ∧ (Kd.R k23 23 w' w.heap.size (fun k_ => some k_ ≠ (.slice Ao92 y162.length co92 : Value).ownBlock ∧ some k_ ≠ (.slice (some ad161) y158.length co86 : Value).ownBlock) s_.1 y167) ∧ (Kd.R k23 23 w' w.heap.size (fun k_ => some k_ ≠ (.slice Ao92 y162.length co92 : Value).ownBlock ∧ some k_ ≠ (s_.1 : Value).ownBlock) (.slice (some ad161) y158.length co86) y158) ∧ (w'.heap[gb150]? = some (.cells #[.int .i64 a0_0, .int .i64 a0_1, .string a0_2, .string a0_3, .slice A0_4 l0_4.length c0_4] 30 (0, 0))) ∧ (w'.heap[gb151]? = some (.cells #[.int .i64 a1_0, .int .i64 a1_1, .string a1_2, .string a1_3, .slice A1_4 l1_4.length c1_4] 30 (0, 0))) ∧ (w'.heap[gb152]? = some (.cells #[.int .i64 a2_0, .int .i64 a2_1, .string a2_2, .string a2_3, .slice A2_4 l2_4.length c2_4] 30 (0, 0))) ∧ (w'.heap[gb165]? = some (.cells #[.int .i64 0, .int .i64 0, .string (⟨#[]⟩ : ByteArray), .string a0_3, .slice Ao92 y162.length co92] 30 (0, 0))) ∧ (w'.heap[s_.2]? = some (.cells #[.int .i64 0, .int .i64 0, .string (⟨#[]⟩ : ByteArray), .string (⟨#[]⟩ : ByteArray), .slice none 0 0] 30 (0, 0))) ∧ (w.heap.size ≤ s_.2) ∧ (w.heap.size ≤ s_.2) ∧ (gb150 ≠ s_.2) ∧ (s_.2 ≠ gb150) ∧ (gb151 ≠ s_.2) ∧ (s_.2 ≠ gb151) ∧ (gb152 ≠ s_.2) ∧ (s_.2 ≠ gb152) ∧ (gb165 ≠ s_.2) ∧ (s_.2 ≠ gb165) ∧ (Below w.heap.size w w')) ?_ ?_
 rotate_left
 · as_aux_lemma =>
     intro hCont
     refine two_ (i := 6) (j := 8) (Ni := some 109) (Nj := some 14) #[true, true, true, true, true, true, true, false, false, false] #[true, true, true, true, true, true, false, false, true, false] rfl rfl rfl rfl (two_of HT_.out (by as_aux_lemma => kernel_rfl)) (by decide) (by decide) (fun K hK => ?_) (fun K hK => ?_)
     ·
      skip
      refine Kd.R_lit_step k23 _ 23 ?hg (N := 109) ?hd (xs := ([(⟨(rd_T23 y158 x12_4).f0, (rd_T23 y158 x12_4).f1, (rd_T23 y158 x12_4).f2⟩ : S23)] : List (S23))) (inner := [.int .i64 ((rd_T23 y158 x12_4).f0), .int .i64 ((rd_T23 y158 x12_4).f1), .string ((rd_T23 y158 x12_4).f2)]) (ok := fun _ => True) (okp := fun _ => True) ?hr ?hp (fun _ hk => hk) trivial (Below.refl _ _) (Nat.le_refl _) (by simp) ?_; (case hd => rfl); (case hg => rfl); (case hr => first | (go_simp; done) | (go_simp; rfl)); (case hp => exact (Reps.c3 (show Kd.M k23 _ _ _ (⟨(rd_T23 y158 x12_4).f0, (rd_T23 y158 x12_4).f1, (rd_T23 y158 x12_4).f2⟩ : S23) [.int .i64 ((rd_T23 y158 x12_4).f0), .int .i64 ((rd_T23 y158 x12_4).f1), .string ((rd_T23 y158 x12_4).f2)] from (k23_mkM _ _ _ (⟨(rd_T23 y158 x12_4).f0, (rd_T23 y158 x12_4).f1, (rd_T23 y158 x12_4).f2⟩ : S23) )) (Reps.none _ _)))
      intro v168 w100 ho101 hb hg_ hnew_
      have HS5_ := (hb.cell (ql _ _ (hHeld.2.2.2.2.2.1))).trans (hHeld.2.2.2.2.2.1)
      have HS6_ := (hb.cell (ql _ _ (hHeld.2.2.2.2.2.2.1))).trans (hHeld.2.2.2.2.2.2.1)
      have HS7_ := (hb.cell (ql _ _ (hHeld.2.2.2.2.2.2.2))).trans (hHeld.2.2.2.2.2.2.2)
      clear hg_ hnew_
      (first | rw [← Ny167.out] at ho101 | (simp only [Int.reduceToNat] at ho101; rw [← Ny167.out] at ho101))
      have n0_ := Aside0.mk (Kd.R_elder' (by (with_reducible repeat (first | apply qz | apply qx | apply qy)); exact HO_10.out) (Kd.R_base ho101) hb)
      have n1_ := Aside0.mk (Kd.R_elder' (by (with_reducible repeat (first | apply qz | apply qx | apply qy)); exact HO164.out) (Kd.R_base ho101) hb)
      have n2_ := Aside0.mk (Kd.R_lower (Kd.R_new' (Kd.R_new' ho101 (Kd.R_lt (by (with_reducible repeat (first | apply qz | apply qx | apply qy)); exact HO_10.out))) (Kd.R_lt (by (with_reducible repeat (first | apply qz | apply qx | apply qy)); exact HO164.out))) (below_size (by repeat (first | (with_reducible first | exact HB.out | apply qf | apply qn | apply qe | refine qd ?_ GE150.out | refine qd ?_ GE151.out | refine qd ?_ GE152.out | refine qd ?_ GE165.out) | exact HB.out))))
      have n3_ := Aside0.mk (qw (g := gb150) (o := .cells #[.int .i64 a0_0, .int .i64 a0_1, .string a0_2, .string a0_3, .slice A0_4 l0_4.length c0_4] 30 (0, 0)) (by (with_reducible repeat (first | refine qa ?_ _ | refine qb ?_ | refine qc ?_ _)); exact BK150.out) hb)
      have n4_ := Aside0.mk (qw (g := gb151) (o := .cells #[.int .i64 a1_0, .int .i64 a1_1, .string a1_2, .string a1_3, .slice A1_4 l1_4.length c1_4] 30 (0, 0)) (by (with_reducible repeat (first | refine qa ?_ _ | refine qb ?_ | refine qc ?_ _)); exact BK151.out) hb)
      have n5_ := Aside0.mk (qw (g := gb152) (o := .cells #[.int .i64 a2_0, .int .i64 a2_1, .string a2_2, .string a2_3, .slice A2_4 l2_4.length c2_4] 30 (0, 0)) (by (with_reducible repeat (first | refine qa ?_ _ | refine qb ?_ | refine qc ?_ _)); exact BK152.out) hb)
      have n6_ := Aside0.mk (qw (g := gb165) (o := .cells #[.int .i64 0, .int .i64 0, .string (⟨#[]⟩ : ByteArray), .string a0_3, .slice Ao92 y162.length co92] 30 (0, 0)) (by (with_reducible repeat (first | refine qa ?_ _ | refine qb ?_ | refine qc ?_ _)); exact BK165.out) hb)
      have n7_ := Aside0.mk (below_step (by repeat (first | (with_reducible first | exact HB.out | apply qf | apply qn | apply qe | refine qd ?_ GE150.out | refine qd ?_ GE151.out | refine qd ?_ GE152.out | refine qd ?_ GE165.out) | exact HB.out)) hb)
      clear HO_10
      clear HO164
      clear BK150
      clear BK151
      clear BK152
      clear BK165
      clear HB
      have HO_10 := n0_
      have HO164 := n1_
      have HO169 := n2_
      have BK150 := n3_
      have BK151 := n4_
      have BK152 := n5_
      have BK165 := n6_
      have HB := n7_
      clear n0_ n1_ n2_ n3_ n4_ n5_ n6_ n7_
      clear hb ho101
      obtain ⟨Ao102, co102, eo102⟩ := Kd.R_slice HO169.out
      (first | subst eo102 | (injection eo102 with f1_ f2_ f3_; have f4_ := f1_.symm; have f5_ := f3_.symm; clear f1_ f2_ f3_; subst f4_; subst f5_))
      refine hK.out _ _ ⟨(qh BK150.out 0).trans rfl, (qh BK150.out 1).trans rfl, (qh BK150.out 2).trans rfl, (qh BK150.out 3).trans rfl, (qh BK150.out 4).trans rfl, HS5_, HS6_, HS7_⟩ (fun hHeld => ?_)
      clear hK K
      refine norm_ (a' := ?_) ?_ ?_
      rotate_left
      · show Act.put _ (some 109) _ = _
        simp only [Act.put, List.setIfInBounds_toArray, List.set_cons_zero, List.set_cons_succ, i64_w, i32_w]
        rfl
      refine pure_ (i := 7) (N := some 110) (v := ?_) (a' := ?_) #[true, true, true, true, true, true, true, true, false, false] rfl rfl (any_of HT_.out (by as_aux_lemma => kernel_rfl)) (fun _ _ _ h => h) (Or.inl ⟨by rfl, ?_⟩) ?_ ?_
      rotate_left
      · intro w'
        go_simp
        with_reducible rfl
      rotate_left
      · simp only [Act.put, List.setIfInBounds_toArray, List.set_cons_zero, List.set_cons_succ, i64_w, i32_w]
        rfl
      refine one_ (i := 8) (N := some 14) #[true, true, true, true, true, true, true, true, true, false] rfl rfl (one_of HT_.out (by as_aux_lemma => kernel_rfl)) (by decide) (fun K hK => ?_)
      refine box_step ?hg (N := 14) ?hd (cs := #[.int .i64 0, .int .i64 0, .string (⟨#[]⟩ : ByteArray), .string (⟨#[]⟩ : ByteArray), .slice none 0 0]) (t := 30) ?hr ?_; (case hd => rfl); (case hg => rfl); (case hr => first | (go_simp; done) | (go_simp; rfl))
      intro gb170 hg w103 hbox hb
      have HS5_ := (hb.cell (ql _ _ (hHeld.2.2.2.2.2.1))).trans (hHeld.2.2.2.2.2.1)
      have HS6_ := (hb.cell (ql _ _ (hHeld.2.2.2.2.2.2.1))).trans (hHeld.2.2.2.2.2.2.1)
      have HS7_ := (hb.cell (ql _ _ (hHeld.2.2.2.2.2.2.2))).trans (hHeld.2.2.2.2.2.2.2)
      have n0_ := Aside0.mk (Kd.R_below (by (with_reducible repeat (first | apply qz | apply qx | apply qy)); exact HO_10.out) hb)
      have n1_ := Aside0.mk (Kd.R_below (by (with_reducible repeat (first | apply qz | apply qx | apply qy)); exact HO164.out) hb)
      have n2_ := Aside0.mk (Kd.R_below (by (with_reducible repeat (first | apply qz | apply qx | apply qy)); exact HO169.out) hb)
      have n3_ := Aside0.mk (qw (g := gb150) (o := .cells #[.int .i64 a0_0, .int .i64 a0_1, .string a0_2, .string a0_3, .slice A0_4 l0_4.length c0_4] 30 (0, 0)) (by (with_reducible repeat (first | refine qa ?_ _ | refine qb ?_ | refine qc ?_ _)); exact BK150.out) hb)
      have n4_ := Aside0.mk (qw (g := gb151) (o := .cells #[.int .i64 a1_0, .int .i64 a1_1, .string a1_2, .string a1_3, .slice A1_4 l1_4.length c1_4] 30 (0, 0)) (by (with_reducible repeat (first | refine qa ?_ _ | refine qb ?_ | refine qc ?_ _)); exact BK151.out) hb)
      have n5_ := Aside0.mk (qw (g := gb152) (o := .cells #[.int .i64 a2_0, .int .i64 a2_1, .string a2_2, .string a2_3, .slice A2_4 l2_4.length c2_4] 30 (0, 0)) (by (with_reducible repeat (first | refine qa ?_ _ | refine qb ?_ | refine qc ?_ _)); exact BK152.out) hb)
      have n6_ := Aside0.mk (qw (g := gb165) (o := .cells #[.int .i64 0, .int .i64 0, .string (⟨#[]⟩ : ByteArray), .string a0_3, .slice Ao92 y162.length co92] 30 (0, 0)) (by (with_reducible repeat (first | refine qa ?_ _ | refine qb ?_ | refine qc ?_ _)); exact BK165.out) hb)
      have n7_ := Aside0.mk (below_step (by repeat (first | (with_reducible first | exact HB.out | apply qf | apply qn | apply qe | refine qd ?_ GE150.out | refine qd ?_ GE151.out | refine qd ?_ GE152.out | refine qd ?_ GE165.out) | exact HB.out)) hb)
      have n8_ := Aside0.mk (hbox)
      have n9_ := Aside0.mk ((by rw [hg]; exact (below_size (by repeat (first | (with_reducible first | exact HB.out | apply qf | apply qn | apply qe | refine qd ?_ GE150.out | refine qd ?_ GE151.out | refine qd ?_ GE152.out | refine qd ?_ GE165.out) | exact HB.out))) : w.heap.size ≤ gb170))
      have n10_ := Aside0.mk ((by rw [hg]; exact (below_size (by repeat (first | (with_reducible first | exact HB.out | apply qf | apply qn | apply qe | refine qd ?_ GE150.out | refine qd ?_ GE151.out | refine qd ?_ GE152.out | refine qd ?_ GE165.out) | exact HB.out))) : w.heap.size ≤ gb170))
      have n11_ := Aside0.mk ((by rw [hg]; exact Nat.ne_of_lt (blk_lt (g := gb150) (o := .cells #[.int .i64 a0_0, .int .i64 a0_1, .string a0_2, .string a0_3, .slice A0_4 l0_4.length c0_4] 30 (0, 0)) (by (with_reducible repeat (first | refine qa ?_ _ | refine qb ?_ | refine qc ?_ _)); exact BK150.out)) : gb150 ≠ gb170))
      have n12_ := Aside0.mk ((by rw [hg]; exact Nat.ne_of_gt (blk_lt (g := gb150) (o := .cells #[.int .i64 a0_0, .int .i64 a0_1, .string a0_2, .string a0_3, .slice A0_4 l0_4.length c0_4] 30 (0, 0)) (by (with_reducible repeat (first | refine qa ?_ _ | refine qb ?_ | refine qc ?_ _)); exact BK150.out)) : gb170 ≠ gb150))
      have n13_ := Aside0.mk ((by rw [hg]; exact Nat.ne_of_lt (blk_lt (g := gb151) (o := .cells #[.int .i64 a1_0, .int .i64 a1_1, .string a1_2, .string a1_3, .slice A1_4 l1_4.length c1_4] 30 (0, 0)) (by (with_reducible repeat (first | refine qa ?_ _ | refine qb ?_ | refine qc ?_ _)); exact BK151.out)) : gb151 ≠ gb170))
      have n14_ := Aside0.mk ((by rw [hg]; exact Nat.ne_of_gt (blk_lt (g := gb151) (o := .cells #[.int .i64 a1_0, .int .i64 a1_1, .string a1_2, .string a1_3, .slice A1_4 l1_4.length c1_4] 30 (0, 0)) (by (with_reducible repeat (first | refine qa ?_ _ | refine qb ?_ | refine qc ?_ _)); exact BK151.out)) : gb170 ≠ gb151))
      have n15_ := Aside0.mk ((by rw [hg]; exact Nat.ne_of_lt (blk_lt (g := gb152) (o := .cells #[.int .i64 a2_0, .int .i64 a2_1, .string a2_2, .string a2_3, .slice A2_4 l2_4.length c2_4] 30 (0, 0)) (by (with_reducible repeat (first | refine qa ?_ _ | refine qb ?_ | refine qc ?_ _)); exact BK152.out)) : gb152 ≠ gb170))
      have n16_ := Aside0.mk ((by rw [hg]; exact Nat.ne_of_gt (blk_lt (g := gb152) (o := .cells #[.int .i64 a2_0, .int .i64 a2_1, .string a2_2, .string a2_3, .slice A2_4 l2_4.length c2_4] 30 (0, 0)) (by (with_reducible repeat (first | refine qa ?_ _ | refine qb ?_ | refine qc ?_ _)); exact BK152.out)) : gb170 ≠ gb152))
      have n17_ := Aside0.mk ((by rw [hg]; exact Nat.ne_of_lt (blk_lt (g := gb165) (o := .cells #[.int .i64 0, .int .i64 0, .string (⟨#[]⟩ : ByteArray), .string a0_3, .slice Ao92 y162.length co92] 30 (0, 0)) (by (with_reducible repeat (first | refine qa ?_ _ | refine qb ?_ | refine qc ?_ _)); exact BK165.out)) : gb165 ≠ gb170))
      have n18_ := Aside0.mk ((by rw [hg]; exact Nat.ne_of_gt (blk_lt (g := gb165) (o := .cells #[.int .i64 0, .int .i64 0, .string (⟨#[]⟩ : ByteArray), .string a0_3, .slice Ao92 y162.length co92] 30 (0, 0)) (by (with_reducible repeat (first | refine qa ?_ _ | refine qb ?_ | refine qc ?_ _)); exact BK165.out)) : gb170 ≠ gb165))
      clear HO_10
      clear HO164
      clear HO169
      clear BK150
      clear BK151
      clear BK152
      clear BK165
      clear HB
      have HO_10 := n0_
      have HO164 := n1_
      have HO169 := n2_
      have BK150 := n3_
      have BK151 := n4_
      have BK152 := n5_
      have BK165 := n6_
      have HB := n7_
      have BK170 := n8_
      have GW170 := n9_
      have GE170 := n10_
      have NB150_170 := n11_
      have NB170_150 := n12_
      have NB151_170 := n13_
      have NB170_151 := n14_
      have NB152_170 := n15_
      have NB170_152 := n16_
      have NB165_170 := n17_
      have NB170_165 := n18_
      clear n0_ n1_ n2_ n3_ n4_ n5_ n6_ n7_ n8_ n9_ n10_ n11_ n12_ n13_ n14_ n15_ n16_ n17_ n18_
      clear hb hbox hg
      refine hK.out _ _ ⟨(qh BK150.out 0).trans rfl, (qh BK150.out 1).trans rfl, (qh BK150.out 2).trans rfl, (qh BK150.out 3).trans rfl, (qh BK150.out 4).trans rfl, HS5_, HS6_, HS7_⟩ (fun hHeld => ?_)
      clear hK K
      refine norm_ (a' := ?_) ?_ ?_
      rotate_left
      · show Act.put _ (some 14) _ = _
        simp only [Act.put, List.setIfInBounds_toArray, List.set_cons_zero, List.set_cons_succ, i64_w, i32_w]
        rfl
      exact norm_ (by simp only [putAll, Act.put, List.setIfInBounds_toArray, List.set_cons_zero, List.set_cons_succ]) (hCont (.slice Ao102 y167.length co102, gb170) _ ⟨hHeld, (by (with_reducible repeat (first | apply qz | apply qx | apply qy)); exact Kd.R_mono HO164.out (fun _ hk => ⟨hk.2, hk.1⟩)), (by (with_reducible repeat (first | apply qz | apply qx | apply qy)); exact Kd.R_mono HO169.out (fun _ hk => ⟨hk.2, hk.1.2⟩)), (by (with_reducible repeat (first | apply qz | apply qx | apply qy)); exact HO_10.out), (by (with_reducible repeat (first | refine qa ?_ _ | refine qb ?_ | refine qc ?_ _)); exact BK150.out), (by (with_reducible repeat (first | refine qa ?_ _ | refine qb ?_ | refine qc ?_ _)); exact BK151.out), (by (with_reducible repeat (first | refine qa ?_ _ | refine qb ?_ | refine qc ?_ _)); exact BK152.out), (by (with_reducible repeat (first | refine qa ?_ _ | refine qb ?_ | refine qc ?_ _)); exact BK165.out), (by (with_reducible repeat (first | refine qa ?_ _ | refine qb ?_ | refine qc ?_ _)); exact BK170.out), GW170.out, GE170.out, NB150_170.out, NB170_150.out, NB151_170.out, NB170_151.out, NB152_170.out, NB170_152.out, NB165_170.out, NB170_165.out, (by repeat (first | (with_reducible first | exact HB.out | apply qf | apply qn | apply qe | refine qd ?_ GE150.out | refine qd ?_ GE151.out | refine qd ?_ GE152.out | refine qd ?_ GE165.out | refine qd ?_ GE170.out) | exact HB.out))⟩)
     skip
     refine box_step ?hg (N := 14) ?hd (cs := #[.int .i64 0, .int .i64 0, .string (⟨#[]⟩ : ByteArray), .string (⟨#[]⟩ : ByteArray), .slice none 0 0]) (t := 30) ?hr ?_; (case hd => rfl); (case hg => rfl); (case hr => first | (go_simp; done) | (go_simp; rfl))
     intro gb170 hg w100 hbox hb
     have HS5_ := (hb.cell (ql _ _ (hHeld.2.2.2.2.2.1))).trans (hHeld.2.2.2.2.2.1)
     have HS6_ := (hb.cell (ql _ _ (hHeld.2.2.2.2.2.2.1))).trans (hHeld.2.2.2.2.2.2.1)
     have HS7_ := (hb.cell (ql _ _ (hHeld.2.2.2.2.2.2.2))).trans (hHeld.2.2.2.2.2.2.2)
     have n0_ := Aside0.mk (Kd.R_below (by (with_reducible repeat (first | apply qz | apply qx | apply qy)); exact HO_10.out) hb)
     have n1_ := Aside0.mk (Kd.R_below (by (with_reducible repeat (first | apply qz | apply qx | apply qy)); exact HO164.out) hb)
     have n2_ := Aside0.mk (qw (g := gb150) (o := .cells #[.int .i64 a0_0, .int .i64 a0_1, .string a0_2, .string a0_3, .slice A0_4 l0_4.length c0_4] 30 (0, 0)) (by (with_reducible repeat (first | refine qa ?_ _ | refine qb ?_ | refine qc ?_ _)); exact BK150.out) hb)
     have n3_ := Aside0.mk (qw (g := gb151) (o := .cells #[.int .i64 a1_0, .int .i64 a1_1, .string a1_2, .string a1_3, .slice A1_4 l1_4.length c1_4] 30 (0, 0)) (by (with_reducible repeat (first | refine qa ?_ _ | refine qb ?_ | refine qc ?_ _)); exact BK151.out) hb)
     have n4_ := Aside0.mk (qw (g := gb152) (o := .cells #[.int .i64 a2_0, .int .i64 a2_1, .string a2_2, .string a2_3, .slice A2_4 l2_4.length c2_4] 30 (0, 0)) (by (with_reducible repeat (first | refine qa ?_ _ | refine qb ?_ | refine qc ?_ _)); exact BK152.out) hb)
     have n5_ := Aside0.mk (qw (g := gb165) (o := .cells #[.int .i64 0, .int .i64 0, .string (⟨#[]⟩ : ByteArray), .string a0_3, .slice Ao92 y162.length co92] 30 (0, 0)) (by (with_reducible repeat (first | refine qa ?_ _ | refine qb ?_ | refine qc ?_ _)); exact BK165.out) hb)
     have n6_ := Aside0.mk (below_step (by repeat (first | (with_reducible first | exact HB.out | apply qf | apply qn | apply qe | refine qd ?_ GE150.out | refine qd ?_ GE151.out | refine qd ?_ GE152.out | refine qd ?_ GE165.out) | exact HB.out)) hb)
     have n7_ := Aside0.mk (hbox)
     have n8_ := Aside0.mk ((by rw [hg]; exact (below_size (by repeat (first | (with_reducible first | exact HB.out | apply qf | apply qn | apply qe | refine qd ?_ GE150.out | refine qd ?_ GE151.out | refine qd ?_ GE152.out | refine qd ?_ GE165.out) | exact HB.out))) : w.heap.size ≤ gb170))
     have n9_ := Aside0.mk ((by rw [hg]; exact (below_size (by repeat (first | (with_reducible first | exact HB.out | apply qf | apply qn | apply qe | refine qd ?_ GE150.out | refine qd ?_ GE151.out | refine qd ?_ GE152.out | refine qd ?_ GE165.out) | exact HB.out))) : w.heap.size ≤ gb170))
     have n10_ := Aside0.mk ((by rw [hg]; exact Nat.ne_of_lt (blk_lt (g := gb150) (o := .cells #[.int .i64 a0_0, .int .i64 a0_1, .string a0_2, .string a0_3, .slice A0_4 l0_4.length c0_4] 30 (0, 0)) (by (with_reducible repeat (first | refine qa ?_ _ | refine qb ?_ | refine qc ?_ _)); exact BK150.out)) : gb150 ≠ gb170))
     have n11_ := Aside0.mk ((by rw [hg]; exact Nat.ne_of_gt (blk_lt (g := gb150) (o := .cells #[.int .i64 a0_0, .int .i64 a0_1, .string a0_2, .string a0_3, .slice A0_4 l0_4.length c0_4] 30 (0, 0)) (by (with_reducible repeat (first | refine qa ?_ _ | refine qb ?_ | refine qc ?_ _)); exact BK150.out)) : gb170 ≠ gb150))
     have n12_ := Aside0.mk ((by rw [hg]; exact Nat.ne_of_lt (blk_lt (g := gb151) (o := .cells #[.int .i64 a1_0, .int .i64 a1_1, .string a1_2, .string a1_3, .slice A1_4 l1_4.length c1_4] 30 (0, 0)) (by (with_reducible repeat (first | refine qa ?_ _ | refine qb ?_ | refine qc ?_ _)); exact BK151.out)) : gb151 ≠ gb170))
     have n13_ := Aside0.mk ((by rw [hg]; exact Nat.ne_of_gt (blk_lt (g := gb151) (o := .cells #[.int .i64 a1_0, .int .i64 a1_1, .string a1_2, .string a1_3, .slice A1_4 l1_4.length c1_4] 30 (0, 0)) (by (with_reducible repeat (first | refine qa ?_ _ | refine qb ?_ | refine qc ?_ _)); exact BK151.out)) : gb170 ≠ gb151))
     have n14_ := Aside0.mk ((by rw [hg]; exact Nat.ne_of_lt (blk_lt (g := gb152) (o := .cells #[.int .i64 a2_0, .int .i64 a2_1, .string a2_2, .string a2_3, .slice A2_4 l2_4.length c2_4] 30 (0, 0)) (by (with_reducible repeat (first | refine qa ?_ _ | refine qb ?_ | refine qc ?_ _)); exact BK152.out)) : gb152 ≠ gb170))
     have n15_ := Aside0.mk ((by rw [hg]; exact Nat.ne_of_gt (blk_lt (g := gb152) (o := .cells #[.int .i64 a2_0, .int .i64 a2_1, .string a2_2, .string a2_3, .slice A2_4 l2_4.length c2_4] 30 (0, 0)) (by (with_reducible repeat (first | refine qa ?_ _ | refine qb ?_ | refine qc ?_ _)); exact BK152.out)) : gb170 ≠ gb152))
     have n16_ := Aside0.mk ((by rw [hg]; exact Nat.ne_of_lt (blk_lt (g := gb165) (o := .cells #[.int .i64 0, .int .i64 0, .string (⟨#[]⟩ : ByteArray), .string a0_3, .slice Ao92 y162.length co92] 30 (0, 0)) (by (with_reducible repeat (first | refine qa ?_ _ | refine qb ?_ | refine qc ?_ _)); exact BK165.out)) : gb165 ≠ gb170))
     have n17_ := Aside0.mk ((by rw [hg]; exact Nat.ne_of_gt (blk_lt (g := gb165) (o := .cells #[.int .i64 0, .int .i64 0, .string (⟨#[]⟩ : ByteArray), .string a0_3, .slice Ao92 y162.length co92] 30 (0, 0)) (by (with_reducible repeat (first | refine qa ?_ _ | refine qb ?_ | refine qc ?_ _)); exact BK165.out)) : gb170 ≠ gb165))
     clear HO_10
     clear HO164
     clear BK150
     clear BK151
     clear BK152
     clear BK165
     clear HB
     have HO_10 := n0_
     have HO164 := n1_
     have BK150 := n2_
     have BK151 := n3_
     have BK152 := n4_
     have BK165 := n5_
     have HB := n6_
     have BK170 := n7_
     have GW170 := n8_
     have GE170 := n9_
     have NB150_170 := n10_
     have NB170_150 := n11_
     have NB151_170 := n12_
     have NB170_151 := n13_
     have NB152_170 := n14_
     have NB170_152 := n15_
     have NB165_170 := n16_
     have NB170_165 := n17_
     clear n0_ n1_ n2_ n3_ n4_ n5_ n6_ n7_ n8_ n9_ n10_ n11_ n12_ n13_ n14_ n15_ n16_ n17_
     clear hb hbox hg
     refine hK.out _ _ ⟨(qh BK150.out 0).trans rfl, (qh BK150.out 1).trans rfl, (qh BK150.out 2).trans rfl, (qh BK150.out 3).trans rfl, (qh BK150.out 4).trans rfl, HS5_, HS6_, HS7_⟩ (fun hHeld => ?_)
     clear hK K
     refine norm_ (a' := ?_) ?_ ?_
     rotate_left
     · show Act.put _ (some 14) _ = _
       simp only [Act.put, List.setIfInBounds_toArray, List.set_cons_zero, List.set_cons_succ, i64_w, i32_w]
       rfl
     refine one_ (i := 6) (N := some 109) #[true, true, true, true, true, true, true, false, true, false] rfl rfl (one_of HT_.out (by as_aux_lemma => kernel_rfl)) (by decide) (fun K hK => ?_)
     refine Kd.R_lit_step k23 _ 23 ?hg (N := 109) ?hd (xs := ([(⟨(rd_T23 y158 x12_4).f0, (rd_T23 y158 x12_4).f1, (rd_T23 y158 x12_4).f2⟩ : S23)] : List (S23))) (inner := [.int .i64 ((rd_T23 y158 x12_4).f0), .int .i64 ((rd_T23 y158 x12_4).f1), .string ((rd_T23 y158 x12_4).f2)]) (ok := fun _ => True) (okp := fun _ => True) ?hr ?hp (fun _ hk => hk) trivial (Below.refl _ _) (Nat.le_refl _) (by simp) ?_; (case hd => rfl); (case hg => rfl); (case hr => first | (go_simp; done) | (go_simp; rfl)); (case hp => exact (Reps.c3 (show Kd.M k23 _ _ _ (⟨(rd_T23 y158 x12_4).f0, (rd_T23 y158 x12_4).f1, (rd_T23 y158 x12_4).f2⟩ : S23) [.int .i64 ((rd_T23 y158 x12_4).f0), .int .i64 ((rd_T23 y158 x12_4).f1), .string ((rd_T23 y158 x12_4).f2)] from (k23_mkM _ _ _ (⟨(rd_T23 y158 x12_4).f0, (rd_T23 y158 x12_4).f1, (rd_T23 y158 x12_4).f2⟩ : S23) )) (Reps.none _ _)))
     intro v168 w101 ho102 hb hg_ hnew_
     have HS5_ := (hb.cell (ql _ _ (hHeld.2.2.2.2.2.1))).trans (hHeld.2.2.2.2.2.1)
     have HS6_ := (hb.cell (ql _ _ (hHeld.2.2.2.2.2.2.1))).trans (hHeld.2.2.2.2.2.2.1)
     have HS7_ := (hb.cell (ql _ _ (hHeld.2.2.2.2.2.2.2))).trans (hHeld.2.2.2.2.2.2.2)
     clear hg_ hnew_
     (first | rw [← Ny167.out] at ho102 | (simp only [Int.reduceToNat] at ho102; rw [← Ny167.out] at ho102))
     have n0_ := Aside0.mk (Kd.R_elder' (by (with_reducible repeat (first | apply qz | apply qx | apply qy)); exact HO_10.out) (Kd.R_base ho102) hb)
     have n1_ := Aside0.mk (Kd.R_elder' (by (with_reducible repeat (first | apply qz | apply qx | apply qy)); exact HO164.out) (Kd.R_base ho102) hb)
     have n2_ := Aside0.mk (Kd.R_lower (Kd.R_new' (Kd.R_new' ho102 (Kd.R_lt (by (with_reducible repeat (first | apply qz | apply qx | apply qy)); exact HO_10.out))) (Kd.R_lt (by (with_reducible repeat (first | apply qz | apply qx | apply qy)); exact HO164.out))) (below_size (by repeat (first | (with_reducible first | exact HB.out | apply qf | apply qn | apply qe | refine qd ?_ GE150.out | refine qd ?_ GE151.out | refine qd ?_ GE152.out | refine qd ?_ GE165.out | refine qd ?_ GE170.out) | exact HB.out))))
     have n3_ := Aside0.mk (qw (g := gb150) (o := .cells #[.int .i64 a0_0, .int .i64 a0_1, .string a0_2, .string a0_3, .slice A0_4 l0_4.length c0_4] 30 (0, 0)) (by (with_reducible repeat (first | refine qa ?_ _ | refine qb ?_ | refine qc ?_ _)); exact BK150.out) hb)
     have n4_ := Aside0.mk (qw (g := gb151) (o := .cells #[.int .i64 a1_0, .int .i64 a1_1, .string a1_2, .string a1_3, .slice A1_4 l1_4.length c1_4] 30 (0, 0)) (by (with_reducible repeat (first | refine qa ?_ _ | refine qb ?_ | refine qc ?_ _)); exact BK151.out) hb)
     have n5_ := Aside0.mk (qw (g := gb152) (o := .cells #[.int .i64 a2_0, .int .i64 a2_1, .string a2_2, .string a2_3, .slice A2_4 l2_4.length c2_4] 30 (0, 0)) (by (with_reducible repeat (first | refine qa ?_ _ | refine qb ?_ | refine qc ?_ _)); exact BK152.out) hb)
     have n6_ := Aside0.mk (qw (g := gb165) (o := .cells #[.int .i64 0, .int .i64 0, .string (⟨#[]⟩ : ByteArray), .string a0_3, .slice Ao92 y162.length co92] 30 (0, 0)) (by (with_reducible repeat (first | refine qa ?_ _ | refine qb ?_ | refine qc ?_ _)); exact BK165.out) hb)
     have n7_ := Aside0.mk (qw (g := gb170) (o := .cells #[.int .i64 0, .int .i64 0, .string (⟨#[]⟩ : ByteArray), .string (⟨#[]⟩ : ByteArray), .slice none 0 0] 30 (0, 0)) (by (with_reducible repeat (first | refine qa ?_ _ | refine qb ?_ | refine qc ?_ _)); exact BK170.out) hb)
     have n8_ := Aside0.mk (below_step (by repeat (first | (with_reducible first | exact HB.out | apply qf | apply qn | apply qe | refine qd ?_ GE150.out | refine qd ?_ GE151.out | refine qd ?_ GE152.out | refine qd ?_ GE165.out | refine qd ?_ GE170.out) | exact HB.out)) hb)
     clear HO_10
     clear HO164
     clear BK150
     clear BK151
     clear BK152
     clear BK165
     clear BK170
     clear HB
     have HO_10 := n0_
     have HO164 := n1_
     have HO169 := n2_
     have BK150 := n3_
     have BK151 := n4_
     have BK152 := n5_
     have BK165 := n6_
     have BK170 := n7_
     have HB := n8_
     clear n0_ n1_ n2_ n3_ n4_ n5_ n6_ n7_ n8_
     clear hb ho102
     obtain ⟨Ao103, co103, eo103⟩ := Kd.R_slice HO169.out
     (first | subst eo103 | (injection eo103 with f1_ f2_ f3_; have f4_ := f1_.symm; have f5_ := f3_.symm; clear f1_ f2_ f3_; subst f4_; subst f5_))
     refine hK.out _ _ ⟨(qh BK150.out 0).trans rfl, (qh BK150.out 1).trans rfl, (qh BK150.out 2).trans rfl, (qh BK150.out 3).trans rfl, (qh BK150.out 4).trans rfl, HS5_, HS6_, HS7_⟩ (fun hHeld => ?_)
     clear hK K
     refine norm_ (a' := ?_) ?_ ?_
     rotate_left
     · show Act.put _ (some 109) _ = _
       simp only [Act.put, List.setIfInBounds_toArray, List.set_cons_zero, List.set_cons_succ, i64_w, i32_w]
       rfl
     refine pure_ (i := 7) (N := some 110) (v := ?_) (a' := ?_) #[true, true, true, true, true, true, true, true, true, false] rfl rfl (any_of HT_.out (by as_aux_lemma => kernel_rfl)) (fun _ _ _ h => h) (Or.inl ⟨by rfl, ?_⟩) ?_ ?_
     rotate_left
     · intro w'
       go_simp
       with_reducible rfl
     rotate_left
     · simp only [Act.put, List.setIfInBounds_toArray, List.set_cons_zero, List.set_cons_succ, i64_w, i32_w]
       rfl
     exact norm_ (by simp only [putAll, Act.put, List.setIfInBounds_toArray, List.set_cons_zero, List.set_cons_succ]) (hCont (.slice Ao103 y167.length co103, gb170) _ ⟨hHeld, (by (with_reducible repeat (first | apply qz | apply qx | apply qy)); exact Kd.R_mono HO164.out (fun _ hk => ⟨hk.2, hk.1⟩)), (by (with_reducible repeat (first | apply qz | apply qx | apply qy)); exact Kd.R_mono HO169.out (fun _ hk => ⟨hk.2, hk.1.2⟩)), (by (with_reducible repeat (first | apply qz | apply qx | apply qy)); exact HO_10.out), (by (with_reducible repeat (first | refine qa ?_ _ | refine qb ?_ | refine qc ?_ _)); exact BK150.out), (by (with_reducible repeat (first | refine qa ?_ _ | refine qb ?_ | refine qc ?_ _)); exact BK151.out), (by (with_reducible repeat (first | refine qa ?_ _ | refine qb ?_ | refine qc ?_ _)); exact BK152.out), (by (with_reducible repeat (first | refine qa ?_ _ | refine qb ?_ | refine qc ?_ _)); exact BK165.out), (by (with_reducible repeat (first | refine qa ?_ _ | refine qb ?_ | refine qc ?_ _)); exact BK170.out), GW170.out, GE170.out, NB150_170.out, NB170_150.out, NB151_170.out, NB170_151.out, NB152_170.out, NB170_152.out, NB165_170.out, NB170_165.out, (by repeat (first | (with_reducible first | exact HB.out | apply qf | apply qn | apply qe | refine qd ?_ GE150.out | refine qd ?_ GE151.out | refine qd ?_ GE152.out | refine qd ?_ GE165.out | refine qd ?_ GE170.out) | exact HB.out))⟩)
 rintro ⟨v168, gb170⟩ w104 ⟨hS_, h0_, h1_, h2_, h3_, h4_, h5_, h6_, h7_, h8_, h9_, h10_, h11_, h12_, h13_, h14_, h15_, h16_, h17_, h18_⟩
 have n0_ : Aside0 (Kd.R k23 23 w104 w.heap.size (fun k_ => some k_ ≠ (v168 : Value).ownBlock ∧ some k_ ≠ (.slice (some ad161) y158.length co86 : Value).ownBlock) (.slice Ao92 y162.length co92) y162) := ⟨h0_⟩
 have n1_ : Aside0 (Kd.R k23 23 w104 w.heap.size (fun k_ => some k_ ≠ (.slice Ao92 y162.length co92 : Value).ownBlock ∧ some k_ ≠ (.slice (some ad161) y158.length co86 : Value).ownBlock) v168 y167) := ⟨h1_⟩
 have n2_ : Aside0 (Kd.R k23 23 w104 w.heap.size (fun k_ => some k_ ≠ (.slice Ao92 y162.length co92 : Value).ownBlock ∧ some k_ ≠ (v168 : Value).ownBlock) (.slice (some ad161) y158.length co86) y158) := ⟨h2_⟩
 have n3_ : Aside0 (w104.heap[gb150]? = some (.cells #[.int .i64 a0_0, .int .i64 a0_1, .string a0_2, .string a0_3, .slice A0_4 l0_4.length c0_4] 30 (0, 0))) := ⟨h3_⟩
 have n4_ : Aside0 (w104.heap[gb151]? = some (.cells #[.int .i64 a1_0, .int .i64 a1_1, .string a1_2, .string a1_3, .slice A1_4 l1_4.length c1_4] 30 (0, 0))) := ⟨h4_⟩
 have n5_ : Aside0 (w104.heap[gb152]? = some (.cells #[.int .i64 a2_0, .int .i64 a2_1, .string a2_2, .string a2_3, .slice A2_4 l2_4.length c2_4] 30 (0, 0))) := ⟨h5_⟩
 have n6_ : Aside0 (w104.heap[gb165]? = some (.cells #[.int .i64 0, .int .i64 0, .string (⟨#[]⟩ : ByteArray), .string a0_3, .slice Ao92 y162.length co92] 30 (0, 0))) := ⟨h6_⟩
 have n7_ : Aside0 (w104.heap[gb170]? = some (.cells #[.int .i64 0, .int .i64 0, .string (⟨#[]⟩ : ByteArray), .string (⟨#[]⟩ : ByteArray), .slice none 0 0] 30 (0, 0))) := ⟨h7_⟩
 have n8_ : Aside0 (w.heap.size ≤ gb170) := ⟨h8_⟩
 have n9_ : Aside0 (w.heap.size ≤ gb170) := ⟨h9_⟩
 have n10_ : Aside0 (gb150 ≠ gb170) := ⟨h10_⟩
 have n11_ : Aside0 (gb170 ≠ gb150) := ⟨h11_⟩
 have n12_ : Aside0 (gb151 ≠ gb170) := ⟨h12_⟩
 have n13_ : Aside0 (gb170 ≠ gb151) := ⟨h13_⟩
 have n14_ : Aside0 (gb152 ≠ gb170) := ⟨h14_⟩
 have n15_ : Aside0 (gb170 ≠ gb152) := ⟨h15_⟩
 have n16_ : Aside0 (gb165 ≠ gb170) := ⟨h16_⟩
 have n17_ : Aside0 (gb170 ≠ gb165) := ⟨h17_⟩
 have n18_ : Aside0 (Below w.heap.size w w104) := ⟨h18_⟩
 clear HO_10
 clear HO164
 clear BK150
 clear BK151
 clear BK152
 clear BK165
 clear HB
 clear h0_ h1_ h2_ h3_ h4_ h5_ h6_ h7_ h8_ h9_ h10_ h11_ h12_ h13_ h14_ h15_ h16_ h17_ h18_
 have HO164 := n0_
 have HO169 := n1_
 have HO_10 := n2_
 have BK150 := n3_
 have BK151 := n4_
 have BK152 := n5_
 have BK165 := n6_
 have BK170 := n7_
 have GW170 := n8_
 have GE170 := n9_
 have NB150_170 := n10_
 have NB170_150 := n11_
 have NB151_170 := n12_
 have NB170_151 := n13_
 have NB152_170 := n14_
 have NB170_152 := n15_
 have NB165_170 := n16_
 have NB170_165 := n17_
 have HB := n18_
 clear n0_ n1_ n2_ n3_ n4_ n5_ n6_ n7_ n8_ n9_ n10_ n11_ n12_ n13_ n14_ n15_ n16_ n17_ n18_
 have hHeld : w104.cell? ⟨gb150, 0, none⟩ = some (.int .i64 a0_0) ∧ w104.cell? ⟨gb150, 1, none⟩ = some (.int .i64 a0_1) ∧ w104.cell? ⟨gb150, 2, none⟩ = some (.string a0_2) ∧ w104.cell? ⟨gb150, 3, none⟩ = some (.string a0_3) ∧ w104.cell? ⟨gb150, 4, none⟩ = some (.slice A0_4 l0_4.length c0_4) ∧ w104.cell? (ad161.add ((x12_4).toNat * 3)) = some (.int .i64 ((rd_T23 y158 x12_4).f0)) ∧ w104.cell? ⟨(ad161.add ((x12_4).toNat * 3)).block, (ad161.add ((x12_4).toNat * 3)).off + 1, none⟩ = some (.int .i64 ((rd_T23 y158 x12_4).f1)) ∧ w104.cell? ⟨(ad161.add ((x12_4).toNat * 3)).block, (ad161.add ((x12_4).toNat * 3)).off + 2, none⟩ = some (.string ((rd_T23 y158 x12_4).f2)) := hS_
 obtain ⟨Ao105, co105, eo105⟩ := Kd.R_slice HO169.out
 (first | subst eo105 | (injection eo105 with f1_ f2_ f3_; have f4_ := f1_.symm; have f5_ := f3_.symm; clear f1_ f2_ f3_; subst f4_; subst f5_))
 refine norm_ (a' := ?_) ?_ ?_
 rotate_left
 · simp only [putAll, Act.put, List.setIfInBounds_toArray, List.set_cons_zero, List.set_cons_succ]
   rfl
 refine one_ (i := 9) (N := none) #[true, true, true, true, true, true, true, true, true, true] rfl rfl (one_of HT_.out (by as_aux_lemma => kernel_rfl)) (by decide) (fun K hK => ?_)
 have hs106 : w104.cell? ⟨gb170, 0, none⟩ = some (.int .i64 0) := (qh BK170.out 0).trans rfl
 have hfs106 := qg BK170.out 0
 have hns106_0 := NB150_170.out
 have hns106_1 := NB151_170.out
 have hns106_2 := NB152_170.out
 have hns106_3 := NB165_170.out
 have hms106_0 := NB170_150.out
 have hms106_1 := NB170_151.out
 have hms106_2 := NB170_152.out
 have hms106_3 := NB170_165.out
 have hs107 : w104.cell? ⟨gb170, 1, none⟩ = some (.int .i64 0) := (qh BK170.out 1).trans rfl
 have hfs107 := qg BK170.out 1
 have hns107_0 := NB150_170.out
 have hns107_1 := NB151_170.out
 have hns107_2 := NB152_170.out
 have hns107_3 := NB165_170.out
 have hms107_0 := NB170_150.out
 have hms107_1 := NB170_151.out
 have hms107_2 := NB170_152.out
 have hms107_3 := NB170_165.out
 have hs108 : w104.cell? ⟨gb170, 2, none⟩ = some (.string (⟨#[]⟩ : ByteArray)) := (qh BK170.out 2).trans rfl
 have hfs108 := qg BK170.out 2
 have hns108_0 := NB150_170.out
 have hns108_1 := NB151_170.out
 have hns108_2 := NB152_170.out
 have hns108_3 := NB165_170.out
 have hms108_0 := NB170_150.out
 have hms108_1 := NB170_151.out
 have hms108_2 := NB170_152.out
 have hms108_3 := NB170_165.out
 have hs109 : w104.cell? ⟨gb170, 3, none⟩ = some (.string (⟨#[]⟩ : ByteArray)) := (qh BK170.out 3).trans rfl
 have hfs109 := qg BK170.out 3
 have hns109_0 := NB150_170.out
 have hns109_1 := NB151_170.out
 have hns109_2 := NB152_170.out
 have hns109_3 := NB165_170.out
 have hms109_0 := NB170_150.out
 have hms109_1 := NB170_151.out
 have hms109_2 := NB170_152.out
 have hms109_3 := NB170_165.out
 have hs110 : w104.cell? ⟨gb170, 4, none⟩ = some (.slice none 0 0) := (qh BK170.out 4).trans rfl
 have hfs110 := qg BK170.out 4
 have hns110_0 := NB150_170.out
 have hns110_1 := NB151_170.out
 have hns110_2 := NB152_170.out
 have hns110_3 := NB165_170.out
 have hms110_0 := NB170_150.out
 have hms110_1 := NB170_151.out
 have hms110_2 := NB170_152.out
 have hms110_3 := NB170_165.out
 refine skip_ (w1 := ?_) (by rfl) rfl ?_ ?_
 rotate_left
 · go_simp
   rfl
 refine hK.out _ _ ⟨((cell_far (p := ⟨gb170, _, none⟩) NB150_170.out _).trans (((cell_far (p := ⟨gb170, _, none⟩) NB150_170.out _).trans (((cell_far (p := ⟨gb170, _, none⟩) NB150_170.out _).trans (((cell_far (p := ⟨gb170, _, none⟩) NB150_170.out _).trans (((cell_far (p := ⟨gb170, _, none⟩) NB150_170.out _).trans (hHeld.1)))))))))), ((cell_far (p := ⟨gb170, _, none⟩) NB150_170.out _).trans (((cell_far (p := ⟨gb170, _, none⟩) NB150_170.out _).trans (((cell_far (p := ⟨gb170, _, none⟩) NB150_170.out _).trans (((cell_far (p := ⟨gb170, _, none⟩) NB150_170.out _).trans (((cell_far (p := ⟨gb170, _, none⟩) NB150_170.out _).trans (hHeld.2.1)))))))))), ((cell_far (p := ⟨gb170, _, none⟩) NB150_170.out _).trans (((cell_far (p := ⟨gb170, _, none⟩) NB150_170.out _).trans (((cell_far (p := ⟨gb170, _, none⟩) NB150_170.out _).trans (((cell_far (p := ⟨gb170, _, none⟩) NB150_170.out _).trans (((cell_far (p := ⟨gb170, _, none⟩) NB150_170.out _).trans (hHeld.2.2.1)))))))))), ((cell_far (p := ⟨gb170, _, none⟩) NB150_170.out _).trans (((cell_far (p := ⟨gb170, _, none⟩) NB150_170.out _).trans (((cell_far (p := ⟨gb170, _, none⟩) NB150_170.out _).trans (((cell_far (p := ⟨gb170, _, none⟩) NB150_170.out _).trans (((cell_far (p := ⟨gb170, _, none⟩) NB150_170.out _).trans (hHeld.2.2.2.1)))))))))), ((cell_far (p := ⟨gb170, _, none⟩) NB150_170.out _).trans (((cell_far (p := ⟨gb170, _, none⟩) NB150_170.out _).trans (((cell_far (p := ⟨gb170, _, none⟩) NB150_170.out _).trans (((cell_far (p := ⟨gb170, _, none⟩) NB150_170.out _).trans (((cell_far (p := ⟨gb170, _, none⟩) NB150_170.out _).trans (hHeld.2.2.2.2.1)))))))))), ((cell_far (p := ⟨gb170, _, none⟩) (by first | exact qi (qj HO_10.out BK170.out (by decide)) | (rw [add_block]; exact qi (qj HO_10.out BK170.out (by decide))) | (show (Addr.add _ _).block ≠ _; rw [add_block]; exact qi (qj HO_10.out BK170.out (by decide))) | (dsimp only; exact qi (qj HO_10.out BK170.out (by decide)))) _).trans (((cell_far (p := ⟨gb170, _, none⟩) (by first | exact qi (qj HO_10.out BK170.out (by decide)) | (rw [add_block]; exact qi (qj HO_10.out BK170.out (by decide))) | (show (Addr.add _ _).block ≠ _; rw [add_block]; exact qi (qj HO_10.out BK170.out (by decide))) | (dsimp only; exact qi (qj HO_10.out BK170.out (by decide)))) _).trans (((cell_far (p := ⟨gb170, _, none⟩) (by first | exact qi (qj HO_10.out BK170.out (by decide)) | (rw [add_block]; exact qi (qj HO_10.out BK170.out (by decide))) | (show (Addr.add _ _).block ≠ _; rw [add_block]; exact qi (qj HO_10.out BK170.out (by decide))) | (dsimp only; exact qi (qj HO_10.out BK170.out (by decide)))) _).trans (((cell_far (p := ⟨gb170, _, none⟩) (by first | exact qi (qj HO_10.out BK170.out (by decide)) | (rw [add_block]; exact qi (qj HO_10.out BK170.out (by decide))) | (show (Addr.add _ _).block ≠ _; rw [add_block]; exact qi (qj HO_10.out BK170.out (by decide))) | (dsimp only; exact qi (qj HO_10.out BK170.out (by decide)))) _).trans (((cell_far (p := ⟨gb170, _, none⟩) (by first | exact qi (qj HO_10.out BK170.out (by decide)) | (rw [add_block]; exact qi (qj HO_10.out BK170.out (by decide))) | (show (Addr.add _ _).block ≠ _; rw [add_block]; exact qi (qj HO_10.out BK170.out (by decide))) | (dsimp only; exact qi (qj HO_10.out BK170.out (by decide)))) _).trans (hHeld.2.2.2.2.2.1)))))))))), ((cell_far (p := ⟨gb170, _, none⟩) (by first | exact qi (qj HO_10.out BK170.out (by decide)) | (rw [add_block]; exact qi (qj HO_10.out BK170.out (by decide))) | (show (Addr.add _ _).block ≠ _; rw [add_block]; exact qi (qj HO_10.out BK170.out (by decide))) | (dsimp only; exact qi (qj HO_10.out BK170.out (by decide)))) _).trans (((cell_far (p := ⟨gb170, _, none⟩) (by first | exact qi (qj HO_10.out BK170.out (by decide)) | (rw [add_block]; exact qi (qj HO_10.out BK170.out (by decide))) | (show (Addr.add _ _).block ≠ _; rw [add_block]; exact qi (qj HO_10.out BK170.out (by decide))) | (dsimp only; exact qi (qj HO_10.out BK170.out (by decide)))) _).trans (((cell_far (p := ⟨gb170, _, none⟩) (by first | exact qi (qj HO_10.out BK170.out (by decide)) | (rw [add_block]; exact qi (qj HO_10.out BK170.out (by decide))) | (show (Addr.add _ _).block ≠ _; rw [add_block]; exact qi (qj HO_10.out BK170.out (by decide))) | (dsimp only; exact qi (qj HO_10.out BK170.out (by decide)))) _).trans (((cell_far (p := ⟨gb170, _, none⟩) (by first | exact qi (qj HO_10.out BK170.out (by decide)) | (rw [add_block]; exact qi (qj HO_10.out BK170.out (by decide))) | (show (Addr.add _ _).block ≠ _; rw [add_block]; exact qi (qj HO_10.out BK170.out (by decide))) | (dsimp only; exact qi (qj HO_10.out BK170.out (by decide)))) _).trans (((cell_far (p := ⟨gb170, _, none⟩) (by first | exact qi (qj HO_10.out BK170.out (by decide)) | (rw [add_block]; exact qi (qj HO_10.out BK170.out (by decide))) | (show (Addr.add _ _).block ≠ _; rw [add_block]; exact qi (qj HO_10.out BK170.out (by decide))) | (dsimp only; exact qi (qj HO_10.out BK170.out (by decide)))) _).trans (hHeld.2.2.2.2.2.2.1)))))))))), ((cell_far (p := ⟨gb170, _, none⟩) (by first | exact qi (qj HO_10.out BK170.out (by decide)) | (rw [add_block]; exact qi (qj HO_10.out BK170.out (by decide))) | (show (Addr.add _ _).block ≠ _; rw [add_block]; exact qi (qj HO_10.out BK170.out (by decide))) | (dsimp only; exact qi (qj HO_10.out BK170.out (by decide)))) _).trans (((cell_far (p := ⟨gb170, _, none⟩) (by first | exact qi (qj HO_10.out BK170.out (by decide)) | (rw [add_block]; exact qi (qj HO_10.out BK170.out (by decide))) | (show (Addr.add _ _).block ≠ _; rw [add_block]; exact qi (qj HO_10.out BK170.out (by decide))) | (dsimp only; exact qi (qj HO_10.out BK170.out (by decide)))) _).trans (((cell_far (p := ⟨gb170, _, none⟩) (by first | exact qi (qj HO_10.out BK170.out (by decide)) | (rw [add_block]; exact qi (qj HO_10.out BK170.out (by decide))) | (show (Addr.add _ _).block ≠ _; rw [add_block]; exact qi (qj HO_10.out BK170.out (by decide))) | (dsimp only; exact qi (qj HO_10.out BK170.out (by decide)))) _).trans (((cell_far (p := ⟨gb170, _, none⟩) (by first | exact qi (qj HO_10.out BK170.out (by decide)) | (rw [add_block]; exact qi (qj HO_10.out BK170.out (by decide))) | (show (Addr.add _ _).block ≠ _; rw [add_block]; exact qi (qj HO_10.out BK170.out (by decide))) | (dsimp only; exact qi (qj HO_10.out BK170.out (by decide)))) _).trans (((cell_far (p := ⟨gb170, _, none⟩) (by first | exact qi (qj HO_10.out BK170.out (by decide)) | (rw [add_block]; exact qi (qj HO_10.out BK170.out (by decide))) | (show (Addr.add _ _).block ≠ _; rw [add_block]; exact qi (qj HO_10.out BK170.out (by decide))) | (dsimp only; exact qi (qj HO_10.out BK170.out (by decide)))) _).trans (hHeld.2.2.2.2.2.2.2))))))))))⟩ (fun hHeld => ?_)
 clear hK K
 refine done_ (done_of HT_.out (by as_aux_lemma => kernel_rfl)) ?_
 go_upto_region 17 with (fail)
 go_cut [145] (fun v145 wc => ∃ (kq : Nat) (x145_83 : Bool), v145 = .bool x145_83 ∧ Aside0 (hearsaylaw02_TermOrder.j4 kq y158 x11_3 x12_4 x145_83 a0_0 a0_1 a0_2 a0_3 l0_4 = some r) ∧ Aside0 (kq ≤ k4) ∧ Aside0 (Kd.R k23 23 wc w.heap.size (fun k_ => some k_ ≠ ((.slice Ao92 y162.length co92) : Value).ownBlock ∧ some k_ ≠ ((.slice Ao105 y167.length co105) : Value).ownBlock) (.slice (some ad161) y158.length co86) y158) ∧ Aside0 (Kd.R k23 23 wc w.heap.size (fun k_ => some k_ ≠ ((.slice (some ad161) y158.length co86) : Value).ownBlock ∧ some k_ ≠ ((.slice Ao105 y167.length co105) : Value).ownBlock) (.slice Ao92 y162.length co92) y162) ∧ Aside0 (Kd.R k23 23 wc w.heap.size (fun k_ => some k_ ≠ ((.slice (some ad161) y158.length co86) : Value).ownBlock ∧ some k_ ≠ ((.slice Ao92 y162.length co92) : Value).ownBlock) (.slice Ao105 y167.length co105) y167) ∧ Aside0 (wc.heap[gb150]? = some (.cells #[.int .i64 a0_0, .int .i64 a0_1, .string a0_2, .string a0_3, (.slice A0_4 l0_4.length c0_4)] 30 (0, 0))) ∧ Aside0 (wc.heap[gb151]? = some (.cells #[.int .i64 a1_0, .int .i64 a1_1, .string a1_2, .string a1_3, (.slice A1_4 l1_4.length c1_4)] 30 (0, 0))) ∧ Aside0 (wc.heap[gb152]? = some (.cells #[.int .i64 a2_0, .int .i64 a2_1, .string a2_2, .string a2_3, (.slice A2_4 l2_4.length c2_4)] 30 (0, 0))) ∧ Aside0 (wc.heap[gb165]? = some (.cells #[.int .i64 0, .int .i64 0, .string (⟨#[]⟩ : ByteArray), .string a0_3, (.slice Ao92 y162.length co92)] 30 (0, 0))) ∧ Aside0 (wc.heap[gb170]? = some (.cells #[.int .i64 0, .int .i64 0, .string (⟨#[]⟩ : ByteArray), .string a0_3, (.slice Ao105 y167.length co105)] 30 (0, 0))) ∧ Aside0 (Below w.heap.size w wc))
 case first =>
  have H := HC84.out
  clear HC84
  replace H := Option.bind_eq_some_iff.mp H
  obtain ⟨t171, A1110, H⟩ := H
  replace H : ((term_Compare.f k4 ((rd_T23 y158 x11_3).f0) ((rd_T23 y158 x11_3).f1) ((rd_T23 y158 x11_3).f2) ((rd_T23 y158 x12_4).f0) ((rd_T23 y158 x12_4).f1) ((rd_T23 y158 x12_4).f2)).bind fun t174 => (if t171 = t174 then ((term_Compare.f k4 ((rd_T23 y158 x11_3).f0) ((rd_T23 y158 x11_3).f1) ((rd_T23 y158 x11_3).f2) ((rd_T23 y158 x12_4).f0) ((rd_T23 y158 x12_4).f1) ((rd_T23 y158 x12_4).f2)).bind fun t177 => (hearsaylaw02_TermOrder.j4 k4 y158 x11_3 x12_4 ((t177 == 0) != (((rd_T23 y158 x11_3).f0) == ((rd_T23 y158 x12_4).f0) && (((rd_T23 y158 x11_3).f1) == ((rd_T23 y158 x12_4).f1) && ((((rd_T23 y158 x11_3).f2).toList) == (((rd_T23 y158 x12_4).f2).toList))))) a0_0 a0_1 a0_2 a0_3 l0_4)) else (hearsaylaw02_TermOrder.j4 k4 y158 x11_3 x12_4 true a0_0 a0_1 a0_2 a0_3 l0_4))) = some r := H
  have A111 := Aside0.mk A1110
  clear A1110
  replace H := Option.bind_eq_some_iff.mp H
  obtain ⟨t174, A1120, H⟩ := H
  replace H : (if t171 = t174 then ((term_Compare.f k4 ((rd_T23 y158 x11_3).f0) ((rd_T23 y158 x11_3).f1) ((rd_T23 y158 x11_3).f2) ((rd_T23 y158 x12_4).f0) ((rd_T23 y158 x12_4).f1) ((rd_T23 y158 x12_4).f2)).bind fun t177 => (hearsaylaw02_TermOrder.j4 k4 y158 x11_3 x12_4 ((t177 == 0) != (((rd_T23 y158 x11_3).f0) == ((rd_T23 y158 x12_4).f0) && (((rd_T23 y158 x11_3).f1) == ((rd_T23 y158 x12_4).f1) && ((((rd_T23 y158 x11_3).f2).toList) == (((rd_T23 y158 x12_4).f2).toList))))) a0_0 a0_1 a0_2 a0_3 l0_4)) else (hearsaylaw02_TermOrder.j4 k4 y158 x11_3 x12_4 true a0_0 a0_1 a0_2 a0_3 l0_4)) = some r := H
  have A112 := Aside0.mk A1120
  clear A1120
  by_cases c113 : t171 = t174
  rotate_left
  · as_aux_lemma =>
      rw [if_neg c113] at H
      have c113b0 : (t171 == t174) = false := beq_eq_false_iff_ne.mpr c113
      have c113b1 : (t171 != t174) = true := bne_iff_ne.mpr c113
      (first | rw [c113b0] | (simp only [i64_w, i32_w]; rw [c113b0]) | skip)
      have H' := Aside0.mk H
      clear H
      try go_wp2
      have n0_ : Aside0 (Kd.R k23 23 (((((w104.setCell ⟨gb170, 0, none⟩ (.int .i64 0)).setCell ⟨gb170, 1, none⟩ (.int .i64 0)).setCell ⟨gb170, 2, none⟩ (.string (⟨#[]⟩ : ByteArray))).setCell ⟨gb170, 3, none⟩ (.string a0_3)).setCell ⟨gb170, 4, none⟩ (.slice Ao105 y167.length co105)) w.heap.size (fun k_ => some k_ ≠ (.slice Ao92 y162.length co92 : Value).ownBlock ∧ some k_ ≠ (.slice Ao105 y167.length co105 : Value).ownBlock) (.slice (some ad161) y158.length co86) y158) := ⟨by (with_reducible repeat (first | apply qz | apply qx | apply qy)); exact Kd.R_mono (Kd.R_far (p := ⟨gb170, 4, none⟩) (Kd.R_far (p := ⟨gb170, 3, none⟩) (Kd.R_far (p := ⟨gb170, 2, none⟩) (Kd.R_far (p := ⟨gb170, 1, none⟩) (Kd.R_far (p := ⟨gb170, 0, none⟩) (Kd.R_types HO_10.out BK170.out (by decide)) (fun _ hk => hk.2) (.int .i64 0)) (fun _ hk => hk.2) (.int .i64 0)) (fun _ hk => hk.2) (.string (⟨#[]⟩ : ByteArray))) (fun _ hk => hk.2) (.string a0_3)) (fun _ hk => hk.2) (.slice Ao105 y167.length co105)) (fun _ hk => ⟨hk.1.1, hk.1.2⟩)⟩
      have n1_ : Aside0 (Kd.R k23 23 (((((w104.setCell ⟨gb170, 0, none⟩ (.int .i64 0)).setCell ⟨gb170, 1, none⟩ (.int .i64 0)).setCell ⟨gb170, 2, none⟩ (.string (⟨#[]⟩ : ByteArray))).setCell ⟨gb170, 3, none⟩ (.string a0_3)).setCell ⟨gb170, 4, none⟩ (.slice Ao105 y167.length co105)) w.heap.size (fun k_ => some k_ ≠ (.slice (some ad161) y158.length co86 : Value).ownBlock ∧ some k_ ≠ (.slice Ao105 y167.length co105 : Value).ownBlock) (.slice Ao92 y162.length co92) y162) := ⟨by (with_reducible repeat (first | apply qz | apply qx | apply qy)); exact Kd.R_mono (Kd.R_far (p := ⟨gb170, 4, none⟩) (Kd.R_far (p := ⟨gb170, 3, none⟩) (Kd.R_far (p := ⟨gb170, 2, none⟩) (Kd.R_far (p := ⟨gb170, 1, none⟩) (Kd.R_far (p := ⟨gb170, 0, none⟩) (Kd.R_types HO164.out BK170.out (by decide)) (fun _ hk => hk.2) (.int .i64 0)) (fun _ hk => hk.2) (.int .i64 0)) (fun _ hk => hk.2) (.string (⟨#[]⟩ : ByteArray))) (fun _ hk => hk.2) (.string a0_3)) (fun _ hk => hk.2) (.slice Ao105 y167.length co105)) (fun _ hk => ⟨hk.1.2, hk.1.1⟩)⟩
      have n2_ : Aside0 (Kd.R k23 23 (((((w104.setCell ⟨gb170, 0, none⟩ (.int .i64 0)).setCell ⟨gb170, 1, none⟩ (.int .i64 0)).setCell ⟨gb170, 2, none⟩ (.string (⟨#[]⟩ : ByteArray))).setCell ⟨gb170, 3, none⟩ (.string a0_3)).setCell ⟨gb170, 4, none⟩ (.slice Ao105 y167.length co105)) w.heap.size (fun k_ => some k_ ≠ (.slice (some ad161) y158.length co86 : Value).ownBlock ∧ some k_ ≠ (.slice Ao92 y162.length co92 : Value).ownBlock) (.slice Ao105 y167.length co105) y167) := ⟨by (with_reducible repeat (first | apply qz | apply qx | apply qy)); exact Kd.R_mono (Kd.R_far (p := ⟨gb170, 4, none⟩) (Kd.R_far (p := ⟨gb170, 3, none⟩) (Kd.R_far (p := ⟨gb170, 2, none⟩) (Kd.R_far (p := ⟨gb170, 1, none⟩) (Kd.R_far (p := ⟨gb170, 0, none⟩) (Kd.R_types HO169.out BK170.out (by decide)) (fun _ hk => hk.2) (.int .i64 0)) (fun _ hk => hk.2) (.int .i64 0)) (fun _ hk => hk.2) (.string (⟨#[]⟩ : ByteArray))) (fun _ hk => hk.2) (.string a0_3)) (fun _ hk => hk.2) (.slice Ao105 y167.length co105)) (fun _ hk => ⟨hk.1.2, hk.1.1⟩)⟩
      have n3_ : Aside0 ((((((w104.setCell ⟨gb170, 0, none⟩ (.int .i64 0)).setCell ⟨gb170, 1, none⟩ (.int .i64 0)).setCell ⟨gb170, 2, none⟩ (.string (⟨#[]⟩ : ByteArray))).setCell ⟨gb170, 3, none⟩ (.string a0_3)).setCell ⟨gb170, 4, none⟩ (.slice Ao105 y167.length co105)).heap[gb150]? = some (.cells #[.int .i64 a0_0, .int .i64 a0_1, .string a0_2, .string a0_3, .slice A0_4 l0_4.length c0_4] 30 (0, 0))) := ⟨by (with_reducible repeat (first | refine qa ?_ _ | refine qb ?_ | refine qc ?_ _)); refine blk_far ?_ NB150_170.out _; (with_reducible repeat (first | refine qa ?_ _ | refine qb ?_ | refine qc ?_ _)); refine blk_far ?_ NB150_170.out _; (with_reducible repeat (first | refine qa ?_ _ | refine qb ?_ | refine qc ?_ _)); refine blk_far ?_ NB150_170.out _; (with_reducible repeat (first | refine qa ?_ _ | refine qb ?_ | refine qc ?_ _)); refine blk_far ?_ NB150_170.out _; (with_reducible repeat (first | refine qa ?_ _ | refine qb ?_ | refine qc ?_ _)); refine blk_far ?_ NB150_170.out _; (with_reducible repeat (first | refine qa ?_ _ | refine qb ?_ | refine qc ?_ _)); exact BK150.out⟩
      have n4_ : Aside0 ((((((w104.setCell ⟨gb170, 0, none⟩ (.int .i64 0)).setCell ⟨gb170, 1, none⟩ (.int .i64 0)).setCell ⟨gb170, 2, none⟩ (.string (⟨#[]⟩ : ByteArray))).setCell ⟨gb170, 3, none⟩ (.string a0_3)).setCell ⟨gb170, 4, none⟩ (.slice Ao105 y167.length co105)).heap[gb151]? = some (.cells #[.int .i64 a1_0, .int .i64 a1_1, .string a1_2, .string a1_3, .slice A1_4 l1_4.length c1_4] 30 (0, 0))) := ⟨by (with_reducible repeat (first | refine qa ?_ _ | refine qb ?_ | refine qc ?_ _)); refine blk_far ?_ NB151_170.out _; (with_reducible repeat (first | refine qa ?_ _ | refine qb ?_ | refine qc ?_ _)); refine blk_far ?_ NB151_170.out _; (with_reducible repeat (first | refine qa ?_ _ | refine qb ?_ | refine qc ?_ _)); refine blk_far ?_ NB151_170.out _; (with_reducible repeat (first | refine qa ?_ _ | refine qb ?_ | refine qc ?_ _)); refine blk_far ?_ NB151_170.out _; (with_reducible repeat (first | refine qa ?_ _ | refine qb ?_ | refine qc ?_ _)); refine blk_far ?_ NB151_170.out _; (with_reducible repeat (first | refine qa ?_ _ | refine qb ?_ | refine qc ?_ _)); exact BK151.out⟩
      have n5_ : Aside0 ((((((w104.setCell ⟨gb170, 0, none⟩ (.int .i64 0)).setCell ⟨gb170, 1, none⟩ (.int .i64 0)).setCell ⟨gb170, 2, none⟩ (.string (⟨#[]⟩ : ByteArray))).setCell ⟨gb170, 3, none⟩ (.string a0_3)).setCell ⟨gb170, 4, none⟩ (.slice Ao105 y167.length co105)).heap[gb152]? = some (.cells #[.int .i64 a2_0, .int .i64 a2_1, .string a2_2, .string a2_3, .slice A2_4 l2_4.length c2_4] 30 (0, 0))) := ⟨by (with_reducible repeat (first | refine qa ?_ _ | refine qb ?_ | refine qc ?_ _)); refine blk_far ?_ NB152_170.out _; (with_reducible repeat (first | refine qa ?_ _ | refine qb ?_ | refine qc ?_ _)); refine blk_far ?_ NB152_170.out _; (with_reducible repeat (first | refine qa ?_ _ | refine qb ?_ | refine qc ?_ _)); refine blk_far ?_ NB152_170.out _; (with_reducible repeat (first | refine qa ?_ _ | refine qb ?_ | refine qc ?_ _)); refine blk_far ?_ NB152_170.out _; (with_reducible repeat (first | refine qa ?_ _ | refine qb ?_ | refine qc ?_ _)); refine blk_far ?_ NB152_170.out _; (with_reducible repeat (first | refine qa ?_ _ | refine qb ?_ | refine qc ?_ _)); exact BK152.out⟩
      have n6_ : Aside0 ((((((w104.setCell ⟨gb170, 0, none⟩ (.int .i64 0)).setCell ⟨gb170, 1, none⟩ (.int .i64 0)).setCell ⟨gb170, 2, none⟩ (.string (⟨#[]⟩ : ByteArray))).setCell ⟨gb170, 3, none⟩ (.string a0_3)).setCell ⟨gb170, 4, none⟩ (.slice Ao105 y167.length co105)).heap[gb165]? = some (.cells #[.int .i64 0, .int .i64 0, .string (⟨#[]⟩ : ByteArray), .string a0_3, .slice Ao92 y162.length co92] 30 (0, 0))) := ⟨by (with_reducible repeat (first | refine qa ?_ _ | refine qb ?_ | refine qc ?_ _)); refine blk_far ?_ NB165_170.out _; (with_reducible repeat (first | refine qa ?_ _ | refine qb ?_ | refine qc ?_ _)); refine blk_far ?_ NB165_170.out _; (with_reducible repeat (first | refine qa ?_ _ | refine qb ?_ | refine qc ?_ _)); refine blk_far ?_ NB165_170.out _; (with_reducible repeat (first | refine qa ?_ _ | refine qb ?_ | refine qc ?_ _)); refine blk_far ?_ NB165_170.out _; (with_reducible repeat (first | refine qa ?_ _ | refine qb ?_ | refine qc ?_ _)); refine blk_far ?_ NB165_170.out _; (with_reducible repeat (first | refine qa ?_ _ | refine qb ?_ | refine qc ?_ _)); exact BK165.out⟩
      have n7_ : Aside0 ((((((w104.setCell ⟨gb170, 0, none⟩ (.int .i64 0)).setCell ⟨gb170, 1, none⟩ (.int .i64 0)).setCell ⟨gb170, 2, none⟩ (.string (⟨#[]⟩ : ByteArray))).setCell ⟨gb170, 3, none⟩ (.string a0_3)).setCell ⟨gb170, 4, none⟩ (.slice Ao105 y167.length co105)).heap[gb170]? = some (.cells #[.int .i64 0, .int .i64 0, .string (⟨#[]⟩ : ByteArray), .string a0_3, .slice Ao105 y167.length co105] 30 (0, 0))) := ⟨by (with_reducible repeat (first | refine qa ?_ _ | refine qb ?_ | refine qc ?_ _)); refine blk_put (cs := #[.int .i64 0, .int .i64 0, .string (⟨#[]⟩ : ByteArray), .string a0_3, .slice none 0 0]) ?_ 4 _ rfl; (with_reducible repeat (first | refine qa ?_ _ | refine qb ?_ | refine qc ?_ _)); refine blk_put (cs := #[.int .i64 0, .int .i64 0, .string (⟨#[]⟩ : ByteArray), .string (⟨#[]⟩ : ByteArray), .slice none 0 0]) ?_ 3 _ rfl; (with_reducible repeat (first | refine qa ?_ _ | refine qb ?_ | refine qc ?_ _)); refine blk_put (cs := #[.int .i64 0, .int .i64 0, .string (⟨#[]⟩ : ByteArray), .string (⟨#[]⟩ : ByteArray), .slice none 0 0]) ?_ 2 _ rfl; (with_reducible repeat (first | refine qa ?_ _ | refine qb ?_ | refine qc ?_ _)); refine blk_put (cs := #[.int .i64 0, .int .i64 0, .string (⟨#[]⟩ : ByteArray), .string (⟨#[]⟩ : ByteArray), .slice none 0 0]) ?_ 1 _ rfl; (with_reducible repeat (first | refine qa ?_ _ | refine qb ?_ | refine qc ?_ _)); refine blk_put (cs := #[.int .i64 0, .int .i64 0, .string (⟨#[]⟩ : ByteArray), .string (⟨#[]⟩ : ByteArray), .slice none 0 0]) ?_ 0 _ rfl; (with_reducible repeat (first | refine qa ?_ _ | refine qb ?_ | refine qc ?_ _)); exact BK170.out⟩
      have n8_ : Aside0 (Below w.heap.size w (((((w104.setCell ⟨gb170, 0, none⟩ (.int .i64 0)).setCell ⟨gb170, 1, none⟩ (.int .i64 0)).setCell ⟨gb170, 2, none⟩ (.string (⟨#[]⟩ : ByteArray))).setCell ⟨gb170, 3, none⟩ (.string a0_3)).setCell ⟨gb170, 4, none⟩ (.slice Ao105 y167.length co105))) := ⟨by repeat (first | (with_reducible first | exact HB.out | apply qf | apply qn | apply qe | refine qd ?_ GE150.out | refine qd ?_ GE151.out | refine qd ?_ GE152.out | refine qd ?_ GE165.out | refine qd ?_ GE170.out) | exact HB.out)⟩
      (try clear HO_10)
      (try clear HO164)
      (try clear HO169)
      (try clear BK150)
      (try clear BK151)
      (try clear BK152)
      (try clear BK165)
      (try clear BK170)
      (try clear HB)
      generalize (((((w104.setCell ⟨gb170, 0, none⟩ (.int .i64 0)).setCell ⟨gb170, 1, none⟩ (.int .i64 0)).setCell ⟨gb170, 2, none⟩ (.string (⟨#[]⟩ : ByteArray))).setCell ⟨gb170, 3, none⟩ (.string a0_3)).setCell ⟨gb170, 4, none⟩ (.slice Ao105 y167.length co105)) = w120 at n0_ n1_ n2_ n3_ n4_ n5_ n6_ n7_ n8_ ⊢
      have HO_10 := n0_
      have HO164 := n1_
      have HO169 := n2_
      have BK150 := n3_
      have BK151 := n4_
      have BK152 := n5_
      have BK165 := n6_
      have BK170 := n7_
      have HB := n8_
      clear n0_ n1_ n2_ n3_ n4_ n5_ n6_ n7_ n8_
      have n0_ := Aside0.mk (qy HO_10.out)
      have n1_ := Aside0.mk (qy HO164.out)
      have n2_ := Aside0.mk (qy HO169.out)
      have n3_ := Aside0.mk (qb BK150.out)
      have n4_ := Aside0.mk (qb BK151.out)
      have n5_ := Aside0.mk (qb BK152.out)
      have n6_ := Aside0.mk (qb BK165.out)
      have n7_ := Aside0.mk (qb BK170.out)
      have n8_ := Aside0.mk (qe HB.out)
      clear HO_10
      clear HO164
      clear HO169
      clear BK150
      clear BK151
      clear BK152
      clear BK165
      clear BK170
      clear HB
      have HO_10 := n0_
      have HO164 := n1_
      have HO169 := n2_
      have BK150 := n3_
      have BK151 := n4_
      have BK152 := n5_
      have BK165 := n6_
      have BK170 := n7_
      have HB := n8_
      clear n0_ n1_ n2_ n3_ n4_ n5_ n6_ n7_ n8_
      have p172 : 0 ≤ (x11_3 : Int) := of_decide_eq_true (by first | (with_reducible assumption) | assumption)
      have q172 : x11_3 < (y158.length : Int) := of_decide_eq_true (by first | (with_reducible assumption) | assumption)
      obtain ⟨ad172, e172, hx172_0, hx172_1, hx172_2⟩ := at_T23 (Kd.R_reads' HO_10.out).2.2 x11_3 p172 q172
      obtain rfl : ad161 = ad172 := (by injection e172)
      replace p172 := eq_true p172
      replace q172 := eq_true q172
      have p173 : 0 ≤ (x12_4 : Int) := of_decide_eq_true (by first | (with_reducible assumption) | assumption)
      have q173 : x12_4 < (y158.length : Int) := of_decide_eq_true (by first | (with_reducible assumption) | assumption)
      obtain ⟨ad173, e173, hx173_0, hx173_1, hx173_2⟩ := at_T23 (Kd.R_reads' HO_10.out).2.2 x12_4 p173 q173
      obtain rfl : ad161 = ad173 := (by injection e173)
      replace p173 := eq_true p173
      replace q173 := eq_true q173
      refine start_ (n := 35) (S := fun w' => w'.cell? ⟨gb165, 0, none⟩ = some (.int .i64 0) ∧ w'.cell? ⟨gb165, 1, none⟩ = some (.int .i64 0) ∧ w'.cell? ⟨gb165, 2, none⟩ = some (.string (⟨#[]⟩ : ByteArray)) ∧ w'.cell? ⟨gb165, 3, none⟩ = some (.string a0_3) ∧ w'.cell? ⟨gb165, 4, none⟩ = some (.slice Ao92 y162.length co92) ∧ w'.cell? ⟨gb170, 0, none⟩ = some (.int .i64 0) ∧ w'.cell? ⟨gb170, 1, none⟩ = some (.int .i64 0) ∧ w'.cell? ⟨gb170, 2, none⟩ = some (.string (⟨#[]⟩ : ByteArray)) ∧ w'.cell? ⟨gb170, 3, none⟩ = some (.string a0_3) ∧ w'.cell? ⟨gb170, 4, none⟩ = some (.slice Ao105 y167.length co105) ∧ w'.cell? (ad161.add ((x11_3).toNat * 3)) = some (.int .i64 ((rd_T23 y158 x11_3).f0)) ∧ w'.cell? ⟨(ad161.add ((x11_3).toNat * 3)).block, (ad161.add ((x11_3).toNat * 3)).off + 1, none⟩ = some (.int .i64 ((rd_T23 y158 x11_3).f1)) ∧ w'.cell? ⟨(ad161.add ((x11_3).toNat * 3)).block, (ad161.add ((x11_3).toNat * 3)).off + 2, none⟩ = some (.string ((rd_T23 y158 x11_3).f2)) ∧ w'.cell? (ad161.add ((x12_4).toNat * 3)) = some (.int .i64 ((rd_T23 y158 x12_4).f0)) ∧ w'.cell? ⟨(ad161.add ((x12_4).toNat * 3)).block, (ad161.add ((x12_4).toNat * 3)).off + 1, none⟩ = some (.int .i64 ((rd_T23 y158 x12_4).f1)) ∧ w'.cell? ⟨(ad161.add ((x12_4).toNat * 3)).block, (ad161.add ((x12_4).toNat * 3)).off + 2, none⟩ = some (.string ((rd_T23 y158 x12_4).f2))) (ds := []) #[false, false, false, false, false, false, false, false, false, false, false, false, false, false, false, false, false, false, false, false, false, false, false, false, false, false, false, false, false, false, false, false, false, false, false] (by as_aux_lemma => kernel_rfl) rfl rfl ⟨(qh BK165.out 0).trans rfl, (qh BK165.out 1).trans rfl, (qh BK165.out 2).trans rfl, (qh BK165.out 3).trans rfl, (qh BK165.out 4).trans rfl, (qh BK170.out 0).trans rfl, (qh BK170.out 1).trans rfl, (qh BK170.out 2).trans rfl, (qh BK170.out 3).trans rfl, (qh BK170.out 4).trans rfl, hx172_0, hx172_1, hx172_2, hx173_0, hx173_1, hx173_2⟩ (fun hHeld => ?_); refine with_tabW hearsaylaw02_TermOrder.tab17 hearsaylaw02_TermOrder.bits17 (fun HT_ HW_ => ?_)
      generalize w120.drew = w121 at HO_10 HO164 HO169 BK150 BK151 BK152 BK165 BK170 HB hx172_0 hx172_1 hx172_2 hx173_0 hx173_1 hx173_2 hHeld ⊢
      refine pure_ (i := 3) (N := some 114) (v := ?_) (a' := ?_) #[false, false, false, true, false, false, false, false, false, false, false, false, false, false, false, false, false, false, false, false, false, false, false, false, false, false, false, false, false, false, false, false, false, false, false] rfl rfl (any_of HT_.out (by as_aux_lemma => kernel_rfl)) (fun _ _ _ h => h) (Or.inl ⟨by rfl, ?_⟩) ?_ ?_
      rotate_left
      · intro w'
        go_simp
        with_reducible rfl
      rotate_left
      · simp only [Act.put, List.setIfInBounds_toArray, List.set_cons_zero, List.set_cons_succ, i64_w, i32_w]
        rfl
      refine pure_ (i := 4) (N := some 115) (v := ?_) (a' := ?_) #[false, false, false, true, true, false, false, false, false, false, false, false, false, false, false, false, false, false, false, false, false, false, false, false, false, false, false, false, false, false, false, false, false, false, false] rfl rfl (any_of HT_.out (by as_aux_lemma => kernel_rfl)) (fun _ _ _ h => h) (Or.inl ⟨by rfl, ?_⟩) ?_ ?_
      rotate_left
      · intro w'
        go_simp
        with_reducible rfl
      rotate_left
      · simp only [Act.put, List.setIfInBounds_toArray, List.set_cons_zero, List.set_cons_succ, i64_w, i32_w]
        rfl
      refine pure_ (i := 5) (N := some 116) (v := ?_) (a' := ?_) #[false, false, false, true, true, true, false, false, false, false, false, false, false, false, false, false, false, false, false, false, false, false, false, false, false, false, false, false, false, false, false, false, false, false, false] rfl rfl (any_of HT_.out (by as_aux_lemma => kernel_rfl)) (fun _ _ _ h => h) (Or.inl ⟨by rfl, ?_⟩) ?_ ?_
      rotate_left
      · intro w'
        go_simp
        with_reducible rfl
      rotate_left
      · simp only [Act.put, List.setIfInBounds_toArray, List.set_cons_zero, List.set_cons_succ, i64_w, i32_w]
        rfl
      refine pure_ (i := 7) (N := some 118) (v := ?_) (a' := ?_) #[false, false, false, true, true, true, false, true, false, false, false, false, false, false, false, false, false, false, false, false, false, false, false, false, false, false, false, false, false, false, false, false, false, false, false] rfl rfl (any_of HT_.out (by as_aux_lemma => kernel_rfl)) (fun _ _ _ h => h) (Or.inl ⟨by rfl, ?_⟩) ?_ ?_
      rotate_left
      · intro w'
        go_simp
        with_reducible rfl
      rotate_left
      · simp only [Act.put, List.setIfInBounds_toArray, List.set_cons_zero, List.set_cons_succ, i64_w, i32_w]
        rfl
      refine pure_ (i := 8) (N := some 119) (v := ?_) (a' := ?_) #[false, false, false, true, true, true, false, true, true, false, false, false, false, false, false, false, false, false, false, false, false, false, false, false, false, false, false, false, false, false, false, false, false, false, false] rfl rfl (any_of HT_.out (by as_aux_lemma => kernel_rfl)) (fun _ _ _ h => h) (Or.inl ⟨by rfl, ?_⟩) ?_ ?_
      rotate_left
      · intro w'
        go_simp
        with_reducible rfl
      rotate_left
      · simp only [Act.put, List.setIfInBounds_toArray, List.set_cons_zero, List.set_cons_succ, i64_w, i32_w]
        rfl
      refine pure_ (i := 9) (N := some 120) (v := ?_) (a' := ?_) #[false, false, false, true, true, true, false, true, true, true, false, false, false, false, false, false, false, false, false, false, false, false, false, false, false, false, false, false, false, false, false, false, false, false, false] rfl rfl (any_of HT_.out (by as_aux_lemma => kernel_rfl)) (fun _ _ _ h => h) (Or.inl ⟨by rfl, ?_⟩) ?_ ?_
      rotate_left
      · intro w'
        go_simp
        with_reducible rfl
      rotate_left
      · simp only [Act.put, List.setIfInBounds_toArray, List.set_cons_zero, List.set_cons_succ, i64_w, i32_w]
        rfl
      refine take_ (i := 0) (N := some 111) (v := ?_) (a' := ?_) #[true, false, false, true, true, true, false, true, true, true, false, false, false, false, false, false, false, false, false, false, false, false, false, false, false, false, false, false, false, false, false, false, false, false, false] rfl rfl (take_ofW HT_.out HW_.out (by as_aux_lemma => kernel_rfl)) (fun _ _ _ h => h) (Or.inl ⟨by rfl, ?_⟩) hHeld ?_ ?_
      rotate_left
      · rintro w' ⟨s0, s1, s2, s3, s4, s5, s6, s7, s8, s9, s10, s11, s12, s13, s14, s15⟩
        go_simp
        with_reducible rfl
      rotate_left
      · simp only [Act.put, List.setIfInBounds_toArray, List.set_cons_zero, List.set_cons_succ, i64_w, i32_w]
        rfl
      refine take_ (i := 1) (N := some 112) (v := ?_) (a' := ?_) #[true, true, false, true, true, true, false, true, true, true, false, false, false, false, false, false, false, false, false, false, false, false, false, false, false, false, false, false, false, false, false, false, false, false, false] rfl rfl (take_ofW HT_.out HW_.out (by as_aux_lemma => kernel_rfl)) (fun _ _ _ h => h) (Or.inl ⟨by rfl, ?_⟩) hHeld ?_ ?_
      rotate_left
      · rintro w' ⟨s0, s1, s2, s3, s4, s5, s6, s7, s8, s9, s10, s11, s12, s13, s14, s15⟩
        go_simp
        with_reducible rfl
      rotate_left
      · simp only [Act.put, List.setIfInBounds_toArray, List.set_cons_zero, List.set_cons_succ, i64_w, i32_w]
        rfl
      refine take_ (i := 6) (N := some 117) (v := ?_) (a' := ?_) #[true, true, false, true, true, true, true, true, true, true, false, false, false, false, false, false, false, false, false, false, false, false, false, false, false, false, false, false, false, false, false, false, false, false, false] rfl rfl (take_ofW HT_.out HW_.out (by as_aux_lemma => kernel_rfl)) (fun _ _ _ h => h) (Or.inl ⟨by rfl, ?_⟩) hHeld ?_ ?_
      rotate_left
      · rintro w' ⟨s0, s1, s2, s3, s4, s5, s6, s7, s8, s9, s10, s11, s12, s13, s14, s15⟩
        go_simp
        with_reducible rfl
      rotate_left
      · simp only [Act.put, List.setIfInBounds_toArray, List.set_cons_zero, List.set_cons_succ, i64_w, i32_w]
        rfl
      refine take_ (i := 10) (N := some 121) (v := ?_) (a' := ?_) #[true, true, false, true, true, true, true, true, true, true, true, false, false, false, false, false, false, false, false, false, false, false, false, false, false, false, false, false, false, false, false, false, false, false, false] rfl rfl (take_ofW HT_.out HW_.out (by as_aux_lemma => kernel_rfl)) (fun _ _ _ h => h) (Or.inl ⟨by rfl, ?_⟩) hHeld ?_ ?_
      rotate_left
      · rintro w' ⟨s0, s1, s2, s3, s4, s5, s6, s7, s8, s9, s10, s11, s12, s13, s14, s15⟩
        go_simp
        with_reducible rfl
      rotate_left
      · simp only [Act.put, List.setIfInBounds_toArray, List.set_cons_zero, List.set_cons_succ, i64_w, i32_w]
        rfl
      refine one_ (i := 2) (N := some 113) #[true, true, true, true, true, true, true, true, true, true, true, false, false, false, false, false, false, false, false, false, false, false, false, false, false, false, false, false, false, false, false, false, false, false, false] rfl rfl (one_of HT_.out (by as_aux_lemma => kernel_rfl)) (by decide) (fun K hK => ?_)
      refine goes_ Try.func15 (by as_aux_lemma => kernel_rfl) rfl #[.agg #[.int .i64 0, .int .i64 0, .string (⟨#[]⟩ : ByteArray), .string a0_3, .slice Ao92 y162.length co92], .agg #[.int .i64 0, .int .i64 0, .string (⟨#[]⟩ : ByteArray), .string a0_3, .slice Ao105 y167.length co105]] (by rfl) rfl rfl (by (try simp only [List.map_toArray, List.map_cons, List.map_nil]); first | done | rfl | (simp only [List.length_drop, List.length_take]; rfl)) ?_
      with_reducible refine (term_CompareAtoms.calls k4 0 0 (⟨#[]⟩ : ByteArray) a0_3 _ _ y162 0 0 (⟨#[]⟩ : ByteArray) a0_3 _ _ y167 t171 _ ?side1 ?side2 ?side3 ?side4 A111.out).mono ?_
      (case side1 => repeat (first | exact (Kd.R_reads' HO164.out).2.2 | (with_reducible refine Kd.C_alloc ?_ _) | (with_reducible refine Kd.C_drewN ?_ _) | (with_reducible refine Kd.C_drew ?_)))
      (case side2 => exact (Kd.R_reads' HO164.out).2.1)
      (case side3 => repeat (first | exact (Kd.R_reads' HO169.out).2.2 | (with_reducible refine Kd.C_alloc ?_ _) | (with_reducible refine Kd.C_drewN ?_ _) | (with_reducible refine Kd.C_drew ?_)))
      (case side4 => exact (Kd.R_reads' HO169.out).2.1)
      rintro e w122 ⟨rfl, hb⟩
      have HS10_ := (hb.cell (ql _ _ (hHeld.2.2.2.2.2.2.2.2.2.2.1))).trans (hHeld.2.2.2.2.2.2.2.2.2.2.1)
      have HS11_ := (hb.cell (ql _ _ (hHeld.2.2.2.2.2.2.2.2.2.2.2.1))).trans (hHeld.2.2.2.2.2.2.2.2.2.2.2.1)
      have HS12_ := (hb.cell (ql _ _ (hHeld.2.2.2.2.2.2.2.2.2.2.2.2.1))).trans (hHeld.2.2.2.2.2.2.2.2.2.2.2.2.1)
      have HS13_ := (hb.cell (ql _ _ (hHeld.2.2.2.2.2.2.2.2.2.2.2.2.2.1))).trans (hHeld.2.2.2.2.2.2.2.2.2.2.2.2.2.1)
      have HS14_ := (hb.cell (ql _ _ (hHeld.2.2.2.2.2.2.2.2.2.2.2.2.2.2.1))).trans (hHeld.2.2.2.2.2.2.2.2.2.2.2.2.2.2.1)
      have HS15_ := (hb.cell (ql _ _ (hHeld.2.2.2.2.2.2.2.2.2.2.2.2.2.2.2))).trans (hHeld.2.2.2.2.2.2.2.2.2.2.2.2.2.2.2)
      refine ⟨_, rfl, ?_⟩
      have n0_ := Aside0.mk (Kd.R_below (by (with_reducible repeat (first | apply qz | apply qx | apply qy)); exact HO_10.out) hb)
      have n1_ := Aside0.mk (Kd.R_below (by (with_reducible repeat (first | apply qz | apply qx | apply qy)); exact HO164.out) hb)
      have n2_ := Aside0.mk (Kd.R_below (by (with_reducible repeat (first | apply qz | apply qx | apply qy)); exact HO169.out) hb)
      have n3_ := Aside0.mk (qw (g := gb150) (o := .cells #[.int .i64 a0_0, .int .i64 a0_1, .string a0_2, .string a0_3, .slice A0_4 l0_4.length c0_4] 30 (0, 0)) (by (with_reducible repeat (first | refine qa ?_ _ | refine qb ?_ | refine qc ?_ _)); exact BK150.out) hb)
      have n4_ := Aside0.mk (qw (g := gb151) (o := .cells #[.int .i64 a1_0, .int .i64 a1_1, .string a1_2, .string a1_3, .slice A1_4 l1_4.length c1_4] 30 (0, 0)) (by (with_reducible repeat (first | refine qa ?_ _ | refine qb ?_ | refine qc ?_ _)); exact BK151.out) hb)
      have n5_ := Aside0.mk (qw (g := gb152) (o := .cells #[.int .i64 a2_0, .int .i64 a2_1, .string a2_2, .string a2_3, .slice A2_4 l2_4.length c2_4] 30 (0, 0)) (by (with_reducible repeat (first | refine qa ?_ _ | refine qb ?_ | refine qc ?_ _)); exact BK152.out) hb)
      have n6_ := Aside0.mk (qw (g := gb165) (o := .cells #[.int .i64 0, .int .i64 0, .string (⟨#[]⟩ : ByteArray), .string a0_3, .slice Ao92 y162.length co92] 30 (0, 0)) (by (with_reducible repeat (first | refine qa ?_ _ | refine qb ?_ | refine qc ?_ _)); exact BK165.out) hb)
      have n7_ := Aside0.mk (qw (g := gb170) (o := .cells #[.int .i64 0, .int .i64 0, .string (⟨#[]⟩ : ByteArray), .string a0_3, .slice Ao105 y167.length co105] 30 (0, 0)) (by (with_reducible repeat (first | refine qa ?_ _ | refine qb ?_ | refine qc ?_ _)); exact BK170.out) hb)
      have n8_ := Aside0.mk (below_step (by repeat (first | (with_reducible first | exact HB.out | apply qf | apply qn | apply qe | refine qd ?_ GE150.out | refine qd ?_ GE151.out | refine qd ?_ GE152.out | refine qd ?_ GE165.out | refine qd ?_ GE170.out) | exact HB.out)) hb)
      clear HO_10
      clear HO164
      clear HO169
      clear BK150
      clear BK151
      clear BK152
      clear BK165
      clear BK170
      clear HB
      have HO_10 := n0_
      have HO164 := n1_
      have HO169 := n2_
      have BK150 := n3_
      have BK151 := n4_
      have BK152 := n5_
      have BK165 := n6_
      have BK170 := n7_
      have HB := n8_
      clear n0_ n1_ n2_ n3_ n4_ n5_ n6_ n7_ n8_
      (try clear hb)
      (try clear hb2)
      (try clear hk)
      (try clear hi)
      refine hK.out _ _ ⟨(qh BK165.out 0).trans rfl, (qh BK165.out 1).trans rfl, (qh BK165.out 2).trans rfl, (qh BK165.out 3).trans rfl, (qh BK165.out 4).trans rfl, (qh BK170.out 0).trans rfl, (qh BK170.out 1).trans rfl, (qh BK170.out 2).trans rfl, (qh BK170.out 3).trans rfl, (qh BK170.out 4).trans rfl, HS10_, HS11_, HS12_, HS13_, HS14_, HS15_⟩ (fun hHeld => ?_)
      clear hK K
      refine norm_ (a' := ?_) ?_ ?_
      rotate_left
      · show Act.put _ (some 113) _ = _
        simp only [Act.put, List.setIfInBounds_toArray, List.set_cons_zero, List.set_cons_succ, i64_w, i32_w]
        rfl
      refine one_ (i := 11) (N := some 122) #[true, true, true, true, true, true, true, true, true, true, true, true, false, false, false, false, false, false, false, false, false, false, false, false, false, false, false, false, false, false, false, false, false, false, false] rfl rfl (one_of HT_.out (by as_aux_lemma => kernel_rfl)) (by decide) (fun K hK => ?_)
      refine goes_ Try.func12 (by as_aux_lemma => kernel_rfl) rfl #[.agg #[.int .i64 ((rd_T23 y158 x11_3).f0), .int .i64 ((rd_T23 y158 x11_3).f1), .string ((rd_T23 y158 x11_3).f2)], .agg #[.int .i64 ((rd_T23 y158 x12_4).f0), .int .i64 ((rd_T23 y158 x12_4).f1), .string ((rd_T23 y158 x12_4).f2)]] (by rfl) rfl rfl (by (try simp only [List.map_toArray, List.map_cons, List.map_nil]); first | done | rfl | (simp only [List.length_drop, List.length_take]; rfl)) ?_
      with_reducible refine (term_Compare.calls k4 ((rd_T23 y158 x11_3).f0) ((rd_T23 y158 x11_3).f1) ((rd_T23 y158 x11_3).f2) ((rd_T23 y158 x12_4).f0) ((rd_T23 y158 x12_4).f1) ((rd_T23 y158 x12_4).f2) t174 _ A112.out).mono ?_
      rintro e w123 ⟨rfl, hb⟩
      have HS10_ := (hb.cell (ql _ _ (hHeld.2.2.2.2.2.2.2.2.2.2.1))).trans (hHeld.2.2.2.2.2.2.2.2.2.2.1)
      have HS11_ := (hb.cell (ql _ _ (hHeld.2.2.2.2.2.2.2.2.2.2.2.1))).trans (hHeld.2.2.2.2.2.2.2.2.2.2.2.1)
      have HS12_ := (hb.cell (ql _ _ (hHeld.2.2.2.2.2.2.2.2.2.2.2.2.1))).trans (hHeld.2.2.2.2.2.2.2.2.2.2.2.2.1)
      have HS13_ := (hb.cell (ql _ _ (hHeld.2.2.2.2.2.2.2.2.2.2.2.2.2.1))).trans (hHeld.2.2.2.2.2.2.2.2.2.2.2.2.2.1)
      have HS14_ := (hb.cell (ql _ _ (hHeld.2.2.2.2.2.2.2.2.2.2.2.2.2.2.1))).trans (hHeld.2.2.2.2.2.2.2.2.2.2.2.2.2.2.1)
      have HS15_ := (hb.cell (ql _ _ (hHeld.2.2.2.2.2.2.2.2.2.2.2.2.2.2.2))).trans (hHeld.2.2.2.2.2.2.2.2.2.2.2.2.2.2.2)
      refine ⟨_, rfl, ?_⟩
      have n0_ := Aside0.mk (Kd.R_below (by (with_reducible repeat (first | apply qz | apply qx | apply qy)); exact HO_10.out) hb)
      have n1_ := Aside0.mk (Kd.R_below (by (with_reducible repeat (first | apply qz | apply qx | apply qy)); exact HO164.out) hb)
      have n2_ := Aside0.mk (Kd.R_below (by (with_reducible repeat (first | apply qz | apply qx | apply qy)); exact HO169.out) hb)
      have n3_ := Aside0.mk (qw (g := gb150) (o := .cells #[.int .i64 a0_0, .int .i64 a0_1, .string a0_2, .string a0_3, .slice A0_4 l0_4.length c0_4] 30 (0, 0)) (by (with_reducible repeat (first | refine qa ?_ _ | refine qb ?_ | refine qc ?_ _)); exact BK150.out) hb)
      have n4_ := Aside0.mk (qw (g := gb151) (o := .cells #[.int .i64 a1_0, .int .i64 a1_1, .string a1_2, .string a1_3, .slice A1_4 l1_4.length c1_4] 30 (0, 0)) (by (with_reducible repeat (first | refine qa ?_ _ | refine qb ?_ | refine qc ?_ _)); exact BK151.out) hb)
      have n5_ := Aside0.mk (qw (g := gb152) (o := .cells #[.int .i64 a2_0, .int .i64 a2_1, .string a2_2, .string a2_3, .slice A2_4 l2_4.length c2_4] 30 (0, 0)) (by (with_reducible repeat (first | refine qa ?_ _ | refine qb ?_ | refine qc ?_ _)); exact BK152.out) hb)
      have n6_ := Aside0.mk (qw (g := gb165) (o := .cells #[.int .i64 0, .int .i64 0, .string (⟨#[]⟩ : ByteArray), .string a0_3, .slice Ao92 y162.length co92] 30 (0, 0)) (by (with_reducible repeat (first | refine qa ?_ _ | refine qb ?_ | refine qc ?_ _)); exact BK165.out) hb)
      have n7_ := Aside0.mk (qw (g := gb170) (o := .cells #[.int .i64 0, .int .i64 0, .string (⟨#[]⟩ : ByteArray), .string a0_3, .slice Ao105 y167.length co105] 30 (0, 0)) (by (with_reducible repeat (first | refine qa ?_ _ | refine qb ?_ | refine qc ?_ _)); exact BK170.out) hb)
      have n8_ := Aside0.mk (below_step (by repeat (first | (with_reducible first | exact HB.out | apply qf | apply qn | apply qe | refine qd ?_ GE150.out | refine qd ?_ GE151.out | refine qd ?_ GE152.out | refine qd ?_ GE165.out | refine qd ?_ GE170.out) | exact HB.out)) hb)
      clear HO_10
      clear HO164
      clear HO169
      clear BK150
      clear BK151
      clear BK152
      clear BK165
      clear BK170
      clear HB
      have HO_10 := n0_
      have HO164 := n1_
      have HO169 := n2_
      have BK150 := n3_
      have BK151 := n4_
      have BK152 := n5_
      have BK165 := n6_
      have BK170 := n7_
      have HB := n8_
      clear n0_ n1_ n2_ n3_ n4_ n5_ n6_ n7_ n8_
      (try clear hb)
      (try clear hb2)
      (try clear hk)
      (try clear hi)
      refine hK.out _ _ ⟨(qh BK165.out 0).trans rfl, (qh BK165.out 1).trans rfl, (qh BK165.out 2).trans rfl, (qh BK165.out 3).trans rfl, (qh BK165.out 4).trans rfl, (qh BK170.out 0).trans rfl, (qh BK170.out 1).trans rfl, (qh BK170.out 2).trans rfl, (qh BK170.out 3).trans rfl, (qh BK170.out 4).trans rfl, HS10_, HS11_, HS12_, HS13_, HS14_, HS15_⟩ (fun hHeld => ?_)
      clear hK K
      refine norm_ (a' := ?_) ?_ ?_
      rotate_left
      · show Act.put _ (some 122) _ = _
        simp only [Act.put, List.setIfInBounds_toArray, List.set_cons_zero, List.set_cons_succ, i64_w, i32_w]
        rfl
      refine pure_ (i := 12) (N := some 123) (v := ?_) (a' := ?_) #[true, true, true, true, true, true, true, true, true, true, true, true, true, false, false, false, false, false, false, false, false, false, false, false, false, false, false, false, false, false, false, false, false, false, false] rfl rfl (any_of HT_.out (by as_aux_lemma => kernel_rfl)) (fun _ _ _ h => h) (Or.inl ⟨by rfl, ?_⟩) ?_ ?_
      rotate_left
      · intro w'
        go_simp
        with_reducible rfl
      rotate_left
      · simp only [Act.put, List.setIfInBounds_toArray, List.set_cons_zero, List.set_cons_succ, i64_w, i32_w]
        rfl
      refine pure_ (i := 13) (N := some 124) (v := ?_) (a' := ?_) #[true, true, true, true, true, true, true, true, true, true, true, true, true, true, false, false, false, false, false, false, false, false, false, false, false, false, false, false, false, false, false, false, false, false, false] rfl rfl (any_of HT_.out (by as_aux_lemma => kernel_rfl)) (fun _ _ _ h => h) (Or.inl ⟨by rfl, ?_⟩) ?_ ?_
      rotate_left
      · intro w'
        go_simp
        with_reducible rfl
      rotate_left
      · simp only [Act.put, List.setIfInBounds_toArray, List.set_cons_zero, List.set_cons_succ, i64_w, i32_w]
        rfl
      refine pure_ (i := 14) (N := some 125) (v := undef) (a' := ?_) #[true, true, true, true, true, true, true, true, true, true, true, true, true, true, true, false, false, false, false, false, false, false, false, false, false, false, false, false, false, false, false, false, false, false, false] rfl rfl (any_of HT_.out (by as_aux_lemma => kernel_rfl)) (fun _ _ _ h => h) (Or.inr ⟨by rfl, rfl⟩) ?_ ?_
      rotate_left
      · simp only [Act.put, List.setIfInBounds_toArray, List.set_cons_zero, List.set_cons_succ, i64_w, i32_w]
        rfl
      refine pure_ (i := 15) (N := some 126) (v := undef) (a' := ?_) #[true, true, true, true, true, true, true, true, true, true, true, true, true, true, true, true, false, false, false, false, false, false, false, false, false, false, false, false, false, false, false, false, false, false, false] rfl rfl (any_of HT_.out (by as_aux_lemma => kernel_rfl)) (fun _ _ _ h => h) (Or.inr ⟨by rfl, rfl⟩) ?_ ?_
      rotate_left
      · simp only [Act.put, List.setIfInBounds_toArray, List.set_cons_zero, List.set_cons_succ, i64_w, i32_w]
        rfl
      refine pure_ (i := 16) (N := some 127) (v := undef) (a' := ?_) #[true, true, true, true, true, true, true, true, true, true, true, true, true, true, true, true, true, false, false, false, false, false, false, false, false, false, false, false, false, false, false, false, false, false, false] rfl rfl (any_of HT_.out (by as_aux_lemma => kernel_rfl)) (fun _ _ _ h => h) (Or.inr ⟨by rfl, rfl⟩) ?_ ?_
      rotate_left
      · simp only [Act.put, List.setIfInBounds_toArray, List.set_cons_zero, List.set_cons_succ, i64_w, i32_w]
        rfl
      refine pure_ (i := 17) (N := some 128) (v := undef) (a' := ?_) #[true, true, true, true, true, true, true, true, true, true, true, true, true, true, true, true, true, true, false, false, false, false, false, false, false, false, false, false, false, false, false, false, false, false, false] rfl rfl (any_of HT_.out (by as_aux_lemma => kernel_rfl)) (fun _ _ _ h => h) (Or.inr ⟨by rfl, rfl⟩) ?_ ?_
      rotate_left
      · simp only [Act.put, List.setIfInBounds_toArray, List.set_cons_zero, List.set_cons_succ, i64_w, i32_w]
        rfl
      refine pure_ (i := 18) (N := some 129) (v := undef) (a' := ?_) #[true, true, true, true, true, true, true, true, true, true, true, true, true, true, true, true, true, true, true, false, false, false, false, false, false, false, false, false, false, false, false, false, false, false, false] rfl rfl (any_of HT_.out (by as_aux_lemma => kernel_rfl)) (fun _ _ _ h => h) (Or.inr ⟨by rfl, rfl⟩) ?_ ?_
      rotate_left
      · simp only [Act.put, List.setIfInBounds_toArray, List.set_cons_zero, List.set_cons_succ, i64_w, i32_w]
        rfl
      refine pure_ (i := 19) (N := some 130) (v := undef) (a' := ?_) #[true, true, true, true, true, true, true, true, true, true, true, true, true, true, true, true, true, true, true, true, false, false, false, false, false, false, false, false, false, false, false, false, false, false, false] rfl rfl (any_of HT_.out (by as_aux_lemma => kernel_rfl)) (fun _ _ _ h => h) (Or.inr ⟨by rfl, rfl⟩) ?_ ?_
      rotate_left
      · simp only [Act.put, List.setIfInBounds_toArray, List.set_cons_zero, List.set_cons_succ, i64_w, i32_w]
        rfl
      refine pure_ (i := 20) (N := some 131) (v := undef) (a' := ?_) #[true, true, true, true, true, true, true, true, true, true, true, true, true, true, true, true, true, true, true, true, true, false, false, false, false, false, false, false, false, false, false, false, false, false, false] rfl rfl (any_of HT_.out (by as_aux_lemma => kernel_rfl)) (fun _ _ _ h => h) (Or.inr ⟨by rfl, rfl⟩) ?_ ?_
      rotate_left
      · simp only [Act.put, List.setIfInBounds_toArray, List.set_cons_zero, List.set_cons_succ, i64_w, i32_w]
        rfl
      refine pure_ (i := 21) (N := some 132) (v := undef) (a' := ?_) #[true, true, true, true, true, true, true, true, true, true, true, true, true, true, true, true, true, true, true, true, true, true, false, false, false, false, false, false, false, false, false, false, false, false, false] rfl rfl (any_of HT_.out (by as_aux_lemma => kernel_rfl)) (fun _ _ _ h => h) (Or.inr ⟨by rfl, rfl⟩) ?_ ?_
      rotate_left
      · simp only [Act.put, List.setIfInBounds_toArray, List.set_cons_zero, List.set_cons_succ, i64_w, i32_w]
        rfl
      refine pure_ (i := 22) (N := some 133) (v := undef) (a' := ?_) #[true, true, true, true, true, true, true, true, true, true, true, true, true, true, true, true, true, true, true, true, true, true, true, false, false, false, false, false, false, false, false, false, false, false, false] rfl rfl (any_of HT_.out (by as_aux_lemma => kernel_rfl)) (fun _ _ _ h => h) (Or.inr ⟨by rfl, rfl⟩) ?_ ?_
      rotate_left
      · simp only [Act.put, List.setIfInBounds_toArray, List.set_cons_zero, List.set_cons_succ, i64_w, i32_w]
        rfl
      refine pure_ (i := 23) (N := some 134) (v := undef) (a' := ?_) #[true, true, true, true, true, true, true, true, true, true, true, true, true, true, true, true, true, true, true, true, true, true, true, true, false, false, false, false, false, false, false, false, false, false, false] rfl rfl (any_of HT_.out (by as_aux_lemma => kernel_rfl)) (fun _ _ _ h => h) (Or.inr ⟨by rfl, rfl⟩) ?_ ?_
      rotate_left
      · simp only [Act.put, List.setIfInBounds_toArray, List.set_cons_zero, List.set_cons_succ, i64_w, i32_w]
        rfl
      refine pure_ (i := 24) (N := some 135) (v := undef) (a' := ?_) #[true, true, true, true, true, true, true, true, true, true, true, true, true, true, true, true, true, true, true, true, true, true, true, true, true, false, false, false, false, false, false, false, false, false, false] rfl rfl (any_of HT_.out (by as_aux_lemma => kernel_rfl)) (fun _ _ _ h => h) (Or.inr ⟨by rfl, rfl⟩) ?_ ?_
      rotate_left
      · simp only [Act.put, List.setIfInBounds_toArray, List.set_cons_zero, List.set_cons_succ, i64_w, i32_w]
        rfl
      refine pure_ (i := 25) (N := some 136) (v := undef) (a' := ?_) #[true, true, true, true, true, true, true, true, true, true, true, true, true, true, true, true, true, true, true, true, true, true, true, true, true, true, false, false, false, false, false, false, false, false, false] rfl rfl (any_of HT_.out (by as_aux_lemma => kernel_rfl)) (fun _ _ _ h => h) (Or.inr ⟨by rfl, rfl⟩) ?_ ?_
      rotate_left
      · simp only [Act.put, List.setIfInBounds_toArray, List.set_cons_zero, List.set_cons_succ, i64_w, i32_w]
        rfl
      refine pure_ (i := 26) (N := some 137) (v := undef) (a' := ?_) #[true, true, true, true, true, true, true, true, true, true, true, true, true, true, true, true, true, true, true, true, true, true, true, true, true, true, true, false, false, false, false, false, false, false, false] rfl rfl (any_of HT_.out (by as_aux_lemma => kernel_rfl)) (fun _ _ _ h => h) (Or.inr ⟨by rfl, rfl⟩) ?_ ?_
      rotate_left
      · simp only [Act.put, List.setIfInBounds_toArray, List.set_cons_zero, List.set_cons_succ, i64_w, i32_w]
        rfl
      refine pure_ (i := 27) (N := some 138) (v := undef) (a' := ?_) #[true, true, true, true, true, true, true, true, true, true, true, true, true, true, true, true, true, true, true, true, true, true, true, true, true, true, true, true, false, false, false, false, false, false, false] rfl rfl (any_of HT_.out (by as_aux_lemma => kernel_rfl)) (fun _ _ _ h => h) (Or.inr ⟨by rfl, rfl⟩) ?_ ?_
      rotate_left
      · simp only [Act.put, List.setIfInBounds_toArray, List.set_cons_zero, List.set_cons_succ, i64_w, i32_w]
        rfl
      refine pure_ (i := 28) (N := some 139) (v := undef) (a' := ?_) #[true, true, true, true, true, true, true, true, true, true, true, true, true, true, true, true, true, true, true, true, true, true, true, true, true, true, true, true, true, false, false, false, false, false, false] rfl rfl (any_of HT_.out (by as_aux_lemma => kernel_rfl)) (fun _ _ _ h => h) (Or.inr ⟨by rfl, rfl⟩) ?_ ?_
      rotate_left
      · simp only [Act.put, List.setIfInBounds_toArray, List.set_cons_zero, List.set_cons_succ, i64_w, i32_w]
        rfl
      refine pure_ (i := 29) (N := some 140) (v := undef) (a' := ?_) #[true, true, true, true, true, true, true, true, true, true, true, true, true, true, true, true, true, true, true, true, true, true, true, true, true, true, true, true, true, true, false, false, false, false, false] rfl rfl (any_of HT_.out (by as_aux_lemma => kernel_rfl)) (fun _ _ _ h => h) (Or.inr ⟨by rfl, rfl⟩) ?_ ?_
      rotate_left
      · simp only [Act.put, List.setIfInBounds_toArray, List.set_cons_zero, List.set_cons_succ, i64_w, i32_w]
        rfl
      refine pure_ (i := 30) (N := some 141) (v := undef) (a' := ?_) #[true, true, true, true, true, true, true, true, true, true, true, true, true, true, true, true, true, true, true, true, true, true, true, true, true, true, true, true, true, true, true, false, false, false, false] rfl rfl (any_of HT_.out (by as_aux_lemma => kernel_rfl)) (fun _ _ _ h => h) (Or.inr ⟨by rfl, rfl⟩) ?_ ?_
      rotate_left
      · simp only [Act.put, List.setIfInBounds_toArray, List.set_cons_zero, List.set_cons_succ, i64_w, i32_w]
        rfl
      refine pure_ (i := 31) (N := some 142) (v := undef) (a' := ?_) #[true, true, true, true, true, true, true, true, true, true, true, true, true, true, true, true, true, true, true, true, true, true, true, true, true, true, true, true, true, true, true, true, false, false, false] rfl rfl (any_of HT_.out (by as_aux_lemma => kernel_rfl)) (fun _ _ _ h => h) (Or.inr ⟨by rfl, rfl⟩) ?_ ?_
      rotate_left
      · simp only [Act.put, List.setIfInBounds_toArray, List.set_cons_zero, List.set_cons_succ, i64_w, i32_w]
        rfl
      refine pure_ (i := 32) (N := some 143) (v := undef) (a' := ?_) #[true, true, true, true, true, true, true, true, true, true, true, true, true, true, true, true, true, true, true, true, true, true, true, true, true, true, true, true, true, true, true, true, true, false, false] rfl rfl (any_of HT_.out (by as_aux_lemma => kernel_rfl)) (fun _ _ _ h => h) (Or.inr ⟨by rfl, rfl⟩) ?_ ?_
      rotate_left
      · simp only [Act.put, List.setIfInBounds_toArray, List.set_cons_zero, List.set_cons_succ, i64_w, i32_w]
        rfl
      refine pure_ (i := 33) (N := some 144) (v := undef) (a' := ?_) #[true, true, true, true, true, true, true, true, true, true, true, true, true, true, true, true, true, true, true, true, true, true, true, true, true, true, true, true, true, true, true, true, true, true, false] rfl rfl (any_of HT_.out (by as_aux_lemma => kernel_rfl)) (fun _ _ _ h => h) (Or.inr ⟨by rfl, rfl⟩) ?_ ?_
      rotate_left
      · simp only [Act.put, List.setIfInBounds_toArray, List.set_cons_zero, List.set_cons_succ, i64_w, i32_w]
        rfl
      refine pure_ (i := 34) (N := some 145) (v := ?_) (a' := ?_) #[true, true, true, true, true, true, true, true, true, true, true, true, true, true, true, true, true, true, true, true, true, true, true, true, true, true, true, true, true, true, true, true, true, true, true] rfl rfl (any_of HT_.out (by as_aux_lemma => kernel_rfl)) (fun _ _ _ h => h) (Or.inl ⟨by rfl, ?_⟩) ?_ ?_
      rotate_left
      · intro w'
        go_simp
        with_reducible rfl
      rotate_left
      · simp only [Act.put, List.setIfInBounds_toArray, List.set_cons_zero, List.set_cons_succ, i64_w, i32_w]
        rfl
      refine done_ (done_of HT_.out (by as_aux_lemma => kernel_rfl)) ?_
      try go_wp2
      go_meet
      exact ⟨_, (true), (by first | rfl | (simp; done) | (simp [*]; done)), H', ⟨by have := HJ6.out; have := HJ43.out; have := HK3.out; have := HK4.out; first | omega | exact Nat.le_refl _⟩, ⟨by (with_reducible repeat (first | apply qz | apply qx | apply qy)); exact HO_10.out⟩, ⟨by (with_reducible repeat (first | apply qz | apply qx | apply qy)); exact HO164.out⟩, ⟨by (with_reducible repeat (first | apply qz | apply qx | apply qy)); exact HO169.out⟩, ⟨by (with_reducible repeat (first | refine qa ?_ _ | refine qb ?_ | refine qc ?_ _)); exact BK150.out⟩, ⟨by (with_reducible repeat (first | refine qa ?_ _ | refine qb ?_ | refine qc ?_ _)); exact BK151.out⟩, ⟨by (with_reducible repeat (first | refine qa ?_ _ | refine qb ?_ | refine qc ?_ _)); exact BK152.out⟩, ⟨by (with_reducible repeat (first | refine qa ?_ _ | refine qb ?_ | refine qc ?_ _)); exact BK165.out⟩, ⟨by (with_reducible repeat (first | refine qa ?_ _ | refine qb ?_ | refine qc ?_ _)); exact BK170.out⟩, ⟨by repeat (first | (with_reducible first | exact HB.out | apply qf | apply qn | apply qe | refine qd ?_ GE150.out | refine qd ?_ GE151.out | refine qd ?_ GE152.out | refine qd ?_ GE165.out | refine qd ?_ GE170.out) | exact HB.out)⟩⟩
  rw [if_pos c113] at H
  have c113b0 : (t171 == t174) = true := beq_iff_eq.mpr c113
  have c113b1 : (t171 != t174) = false := bne_eq_false_iff_eq.mpr c113
  clear c113
  (first | rw [c113b0] | (simp only [i64_w, i32_w]; rw [c113b0]) | skip)
  replace H := Option.bind_eq_some_iff.mp H
  obtain ⟨t177, A1140, H⟩ := H
  replace H : (hearsaylaw02_TermOrder.j4 k4 y158 x11_3 x12_4 ((t177 == 0) != (((rd_T23 y158 x11_3).f0) == ((rd_T23 y158 x12_4).f0) && (((rd_T23 y158 x11_3).f1) == ((rd_T23 y158 x12_4).f1) && ((((rd_T23 y158 x11_3).f2).toList) == (((rd_T23 y158 x12_4).f2).toList))))) a0_0 a0_1 a0_2 a0_3 l0_4) = some r := H
  have A114 := Aside0.mk A1140
  clear A1140
  have H' := Aside0.mk H
  clear H
  try go_wp2
  have n0_ : Aside0 (Kd.R k23 23 (((((w104.setCell ⟨gb170, 0, none⟩ (.int .i64 0)).setCell ⟨gb170, 1, none⟩ (.int .i64 0)).setCell ⟨gb170, 2, none⟩ (.string (⟨#[]⟩ : ByteArray))).setCell ⟨gb170, 3, none⟩ (.string a0_3)).setCell ⟨gb170, 4, none⟩ (.slice Ao105 y167.length co105)) w.heap.size (fun k_ => some k_ ≠ (.slice Ao92 y162.length co92 : Value).ownBlock ∧ some k_ ≠ (.slice Ao105 y167.length co105 : Value).ownBlock) (.slice (some ad161) y158.length co86) y158) := ⟨by (with_reducible repeat (first | apply qz | apply qx | apply qy)); exact Kd.R_mono (Kd.R_far (p := ⟨gb170, 4, none⟩) (Kd.R_far (p := ⟨gb170, 3, none⟩) (Kd.R_far (p := ⟨gb170, 2, none⟩) (Kd.R_far (p := ⟨gb170, 1, none⟩) (Kd.R_far (p := ⟨gb170, 0, none⟩) (Kd.R_types HO_10.out BK170.out (by decide)) (fun _ hk => hk.2) (.int .i64 0)) (fun _ hk => hk.2) (.int .i64 0)) (fun _ hk => hk.2) (.string (⟨#[]⟩ : ByteArray))) (fun _ hk => hk.2) (.string a0_3)) (fun _ hk => hk.2) (.slice Ao105 y167.length co105)) (fun _ hk => ⟨hk.1.1, hk.1.2⟩)⟩
  have n1_ : Aside0 (Kd.R k23 23 (((((w104.setCell ⟨gb170, 0, none⟩ (.int .i64 0)).setCell ⟨gb170, 1, none⟩ (.int .i64 0)).setCell ⟨gb170, 2, none⟩ (.string (⟨#[]⟩ : ByteArray))).setCell ⟨gb170, 3, none⟩ (.string a0_3)).setCell ⟨gb170, 4, none⟩ (.slice Ao105 y167.length co105)) w.heap.size (fun k_ => some k_ ≠ (.slice (some ad161) y158.length co86 : Value).ownBlock ∧ some k_ ≠ (.slice Ao105 y167.length co105 : Value).ownBlock) (.slice Ao92 y162.length co92) y162) := ⟨by (with_reducible repeat (first | apply qz | apply qx | apply qy)); exact Kd.R_mono (Kd.R_far (p := ⟨gb170, 4, none⟩) (Kd.R_far (p := ⟨gb170, 3, none⟩) (Kd.R_far (p := ⟨gb170, 2, none⟩) (Kd.R_far (p := ⟨gb170, 1, none⟩) (Kd.R_far (p := ⟨gb170, 0, none⟩) (Kd.R_types HO164.out BK170.out (by decide)) (fun _ hk => hk.2) (.int .i64 0)) (fun _ hk => hk.2) (.int .i64 0)) (fun _ hk => hk.2) (.string (⟨#[]⟩ : ByteArray))) (fun _ hk => hk.2) (.string a0_3)) (fun _ hk => hk.2) (.slice Ao105 y167.length co105)) (fun _ hk => ⟨hk.1.2, hk.1.1⟩)⟩
  have n2_ : Aside0 (Kd.R k23 23 (((((w104.setCell ⟨gb170, 0, none⟩ (.int .i64 0)).setCell ⟨gb170, 1, none⟩ (.int .i64 0)).setCell ⟨gb170, 2, none⟩ (.string (⟨#[]⟩ : ByteArray))).setCell ⟨gb170, 3, none⟩ (.string a0_3)).setCell ⟨gb170, 4, none⟩ (.slice Ao105 y167.length co105)) w.heap.size (fun k_ => some k_ ≠ (.slice (some ad161) y158.length co86 : Value).ownBlock ∧ some k_ ≠ (.slice Ao92 y162.length co92 : Value).ownBlock) (.slice Ao105 y167.length co105) y167) := ⟨by (with_reducible repeat (first | apply qz | apply qx | apply qy)); exact Kd.R_mono (Kd.R_far (p := ⟨gb170, 4, none⟩) (Kd.R_far (p := ⟨gb170, 3, none⟩) (Kd.R_far (p := ⟨gb170, 2, none⟩) (Kd.R_far (p := ⟨gb170, 1, none⟩) (Kd.R_far (p := ⟨gb170, 0, none⟩) (Kd.R_types HO169.out BK170.out (by decide)) (fun _ hk => hk.2) (.int .i64 0)) (fun _ hk => hk.2) (.int .i64 0)) (fun _ hk => hk.2) (.string (⟨#[]⟩ : ByteArray))) (fun _ hk => hk.2) (.string a0_3)) (fun _ hk => hk.2) (.slice Ao105 y167.length co105)) (fun _ hk => ⟨hk.1.2, hk.1.1⟩)⟩
  have n3_ : Aside0 ((((((w104.setCell ⟨gb170, 0, none⟩ (.int .i64 0)).setCell ⟨gb170, 1, none⟩ (.int .i64 0)).setCell ⟨gb170, 2, none⟩ (.string (⟨#[]⟩ : ByteArray))).setCell ⟨gb170, 3, none⟩ (.string a0_3)).setCell ⟨gb170, 4, none⟩ (.slice Ao105 y167.length co105)).heap[gb150]? = some (.cells #[.int .i64 a0_0, .int .i64 a0_1, .string a0_2, .string a0_3, .slice A0_4 l0_4.length c0_4] 30 (0, 0))) := ⟨by (with_reducible repeat (first | refine qa ?_ _ | refine qb ?_ | refine qc ?_ _)); refine blk_far ?_ NB150_170.out _; (with_reducible repeat (first | refine qa ?_ _ | refine qb ?_ | refine qc ?_ _)); refine blk_far ?_ NB150_170.out _; (with_reducible repeat (first | refine qa ?_ _ | refine qb ?_ | refine qc ?_ _)); refine blk_far ?_ NB150_170.out _; (with_reducible repeat (first | refine qa ?_ _ | refine qb ?_ | refine qc ?_ _)); refine blk_far ?_ NB150_170.out _; (with_reducible repeat (first | refine qa ?_ _ | refine qb ?_ | refine qc ?_ _)); refine blk_far ?_ NB150_170.out _; (with_reducible repeat (first | refine qa ?_ _ | refine qb ?_ | refine qc ?_ _)); exact BK150.out⟩
  have n4_ : Aside0 ((((((w104.setCell ⟨gb170, 0, none⟩ (.int .i64 0)).setCell ⟨gb170, 1, none⟩ (.int .i64 0)).setCell ⟨gb170, 2, none⟩ (.string (⟨#[]⟩ : ByteArray))).setCell ⟨gb170, 3, none⟩ (.string a0_3)).setCell ⟨gb170, 4, none⟩ (.slice Ao105 y167.length co105)).heap[gb151]? = some (.cells #[.int .i64 a1_0, .int .i64 a1_1, .string a1_2, .string a1_3, .slice A1_4 l1_4.length c1_4] 30 (0, 0))) := ⟨by (with_reducible repeat (first | refine qa ?_ _ | refine qb ?_ | refine qc ?_ _)); refine blk_far ?_ NB151_170.out _; (with_reducible repeat (first | refine qa ?_ _ | refine qb ?_ | refine qc ?_ _)); refine blk_far ?_ NB151_170.out _; (with_reducible repeat (first | refine qa ?_ _ | refine qb ?_ | refine qc ?_ _)); refine blk_far ?_ NB151_170.out _; (with_reducible repeat (first | refine qa ?_ _ | refine qb ?_ | refine qc ?_ _)); refine blk_far ?_ NB151_170.out _; (with_reducible repeat (first | refine qa ?_ _ | refine qb ?_ | refine qc ?_ _)); refine blk_far ?_ NB151_170.out _; (with_reducible repeat (first | refine qa ?_ _ | refine qb ?_ | refine qc ?_ _)); exact BK151.out⟩
  have n5_ : Aside0 ((((((w104.setCell ⟨gb170, 0, none⟩ (.int .i64 0)).setCell ⟨gb170, 1, none⟩ (.int .i64 0)).setCell ⟨gb170, 2, none⟩ (.string (⟨#[]⟩ : ByteArray))).setCell ⟨gb170, 3, none⟩ (.string a0_3)).setCell ⟨gb170, 4, none⟩ (.slice Ao105 y167.length co105)).heap[gb152]? = some (.cells #[.int .i64 a2_0, .int .i64 a2_1, .string a2_2, .string a2_3, .slice A2_4 l2_4.length c2_4] 30 (0, 0))) := ⟨by (with_reducible repeat (first | refine qa ?_ _ | refine qb ?_ | refine qc ?_ _)); refine blk_far ?_ NB152_170.out _; (with_reducible repeat (first | refine qa ?_ _ | refine qb ?_ | refine qc ?_ _)); refine blk_far ?_ NB152_170.out _; (with_reducible repeat (first | refine qa ?_ _ | refine qb ?_ | refine qc ?_ _)); refine blk_far ?_ NB152_170.out _; (with_reducible repeat (first | refine qa ?_ _ | refine qb ?_ | refine qc ?_ _)); refine blk_far ?_ NB152_170.out _; (with_reducible repeat (first | refine qa ?_ _ | refine qb ?_ | refine qc ?_ _)); refine blk_far ?_ NB152_170.out _; (with_reducible repeat (first | refine qa ?_ _ | refine qb ?_ | refine qc ?_ _)); exact BK152.out⟩
  have n6_ : Aside0 ((((((w104.setCell ⟨gb170, 0, none⟩ (.int .i64 0)).setCell ⟨gb170, 1, none⟩ (.int .i64 0)).setCell ⟨gb170, 2, none⟩ (.string (⟨#[]⟩ : ByteArray))).setCell ⟨gb170, 3, none⟩ (.string a0_3)).setCell ⟨gb170, 4, none⟩ (.slice Ao105 y167.length co105)).heap[gb165]? = some (.cells #[.int .i64 0, .int .i64 0, .string (⟨#[]⟩ : ByteArray), .string a0_3, .slice Ao92 y162.length co92] 30 (0, 0))) := ⟨by (with_reducible repeat (first | refine qa ?_ _ | refine qb ?_ | refine qc ?_ _)); refine blk_far ?_ NB165_170.out _; (with_reducible repeat (first | refine qa ?_ _ | refine qb ?_ | refine qc ?_ _)); refine blk_far ?_ NB165_170.out _; (with_reducible repeat (first | refine qa ?_ _ | refine qb ?_ | refine qc ?_ _)); refine blk_far ?_ NB165_170.out _; (with_reducible repeat (first | refine qa ?_ _ | refine qb ?_ | refine qc ?_ _)); refine blk_far ?_ NB165_170.out _; (with_reducible repeat (first | refine qa ?_ _ | refine qb ?_ | refine qc ?_ _)); refine blk_far ?_ NB165_170.out _; (with_reducible repeat (first | refine qa ?_ _ | refine qb ?_ | refine qc ?_ _)); exact BK165.out⟩
  have n7_ : Aside0 ((((((w104.setCell ⟨gb170, 0, none⟩ (.int .i64 0)).setCell ⟨gb170, 1, none⟩ (.int .i64 0)).setCell ⟨gb170, 2, none⟩ (.string (⟨#[]⟩ : ByteArray))).setCell ⟨gb170, 3, none⟩ (.string a0_3)).setCell ⟨gb170, 4, none⟩ (.slice Ao105 y167.length co105)).heap[gb170]? = some (.cells #[.int .i64 0, .int .i64 0, .string (⟨#[]⟩ : ByteArray), .string a0_3, .slice Ao105 y167.length co105] 30 (0, 0))) := ⟨by (with_reducible repeat (first | refine qa ?_ _ | refine qb ?_ | refine qc ?_ _)); refine blk_put (cs := #[.int .i64 0, .int .i64 0, .string (⟨#[]⟩ : ByteArray), .string a0_3, .slice none 0 0]) ?_ 4 _ rfl; (with_reducible repeat (first | refine qa ?_ _ | refine qb ?_ | refine qc ?_ _)); refine blk_put (cs := #[.int .i64 0, .int .i64 0, .string (⟨#[]⟩ : ByteArray), .string (⟨#[]⟩ : ByteArray), .slice none 0 0]) ?_ 3 _ rfl; (with_reducible repeat (first | refine qa ?_ _ | refine qb ?_ | refine qc ?_ _)); refine blk_put (cs := #[.int .i64 0, .int .i64 0, .string (⟨#[]⟩ : ByteArray), .string (⟨#[]⟩ : ByteArray), .slice none 0 0]) ?_ 2 _ rfl; (with_reducible repeat (first | refine qa ?_ _ | refine qb ?_ | refine qc ?_ _)); refine blk_put (cs := #[.int .i64 0, .int .i64 0, .string (⟨#[]⟩ : ByteArray), .string (⟨#[]⟩ : ByteArray), .slice none 0 0]) ?_ 1 _ rfl; (with_reducible repeat (first | refine qa ?_ _ | refine qb ?_ | refine qc ?_ _)); refine blk_put (cs := #[.int .i64 0, .int .i64 0, .string (⟨#[]⟩ : ByteArray), .string (⟨#[]⟩ : ByteArray), .slice none 0 0]) ?_ 0 _ rfl; (with_reducible repeat (first | refine qa ?_ _ | refine qb ?_ | refine qc ?_ _)); exact BK170.out⟩
  have n8_ : Aside0 (Below w.heap.size w (((((w104.setCell ⟨gb170, 0, none⟩ (.int .i64 0)).setCell ⟨gb170, 1, none⟩ (.int .i64 0)).setCell ⟨gb170, 2, none⟩ (.string (⟨#[]⟩ : ByteArray))).setCell ⟨gb170, 3, none⟩ (.string a0_3)).setCell ⟨gb170, 4, none⟩ (.slice Ao105 y167.length co105))) := ⟨by repeat (first | (with_reducible first | exact HB.out | apply qf | apply qn | apply qe | refine qd ?_ GE150.out | refine qd ?_ GE151.out | refine qd ?_ GE152.out | refine qd ?_ GE165.out | refine qd ?_ GE170.out) | exact HB.out)⟩
  (try clear HO_10)
  (try clear HO164)
  (try clear HO169)
  (try clear BK150)
  (try clear BK151)
  (try clear BK152)
  (try clear BK165)
  (try clear BK170)
  (try clear HB)
  generalize (((((w104.setCell ⟨gb170, 0, none⟩ (.int .i64 0)).setCell ⟨gb170, 1, none⟩ (.int .i64 0)).setCell ⟨gb170, 2, none⟩ (.string (⟨#[]⟩ : ByteArray))).setCell ⟨gb170, 3, none⟩ (.string a0_3)).setCell ⟨gb170, 4, none⟩ (.slice Ao105 y167.length co105)) = w115 at n0_ n1_ n2_ n3_ n4_ n5_ n6_ n7_ n8_ ⊢
  have HO_10 := n0_
  have HO164 := n1_
  have HO169 := n2_
  have BK150 := n3_
  have BK151 := n4_
  have BK152 := n5_
  have BK165 := n6_
  have BK170 := n7_
  have HB := n8_
  clear n0_ n1_ n2_ n3_ n4_ n5_ n6_ n7_ n8_
  have n0_ := Aside0.mk (qy HO_10.out)
  have n1_ := Aside0.mk (qy HO164.out)
  have n2_ := Aside0.mk (qy HO169.out)
  have n3_ := Aside0.mk (qb BK150.out)
  have n4_ := Aside0.mk (qb BK151.out)
  have n5_ := Aside0.mk (qb BK152.out)
  have n6_ := Aside0.mk (qb BK165.out)
  have n7_ := Aside0.mk (qb BK170.out)
  have n8_ := Aside0.mk (qe HB.out)
  clear HO_10
  clear HO164
  clear HO169
  clear BK150
  clear BK151
  clear BK152
  clear BK165
  clear BK170
  clear HB
  have HO_10 := n0_
  have HO164 := n1_
  have HO169 := n2_
  have BK150 := n3_
  have BK151 := n4_
  have BK152 := n5_
  have BK165 := n6_
  have BK170 := n7_
  have HB := n8_
  clear n0_ n1_ n2_ n3_ n4_ n5_ n6_ n7_ n8_
  have p172 : 0 ≤ (x11_3 : Int) := of_decide_eq_true (by first | (with_reducible assumption) | assumption)
  have q172 : x11_3 < (y158.length : Int) := of_decide_eq_true (by first | (with_reducible assumption) | assumption)
  obtain ⟨ad172, e172, hx172_0, hx172_1, hx172_2⟩ := at_T23 (Kd.R_reads' HO_10.out).2.2 x11_3 p172 q172
  obtain rfl : ad161 = ad172 := (by injection e172)
  replace p172 := eq_true p172
  replace q172 := eq_true q172
  have p173 : 0 ≤ (x12_4 : Int) := of_decide_eq_true (by first | (with_reducible assumption) | assumption)
  have q173 : x12_4 < (y158.length : Int) := of_decide_eq_true (by first | (with_reducible assumption) | assumption)
  obtain ⟨ad173, e173, hx173_0, hx173_1, hx173_2⟩ := at_T23 (Kd.R_reads' HO_10.out).2.2 x12_4 p173 q173
  obtain rfl : ad161 = ad173 := (by injection e173)
  replace p173 := eq_true p173
  replace q173 := eq_true q173
  have p175 : 0 ≤ (x11_3 : Int) := of_decide_eq_true (by first | (with_reducible assumption) | assumption)
  have q175 : x11_3 < (y158.length : Int) := of_decide_eq_true (by first | (with_reducible assumption) | assumption)
  obtain ⟨ad175, e175, hx175_0, hx175_1, hx175_2⟩ := at_T23 (Kd.R_reads' HO_10.out).2.2 x11_3 p175 q175
  obtain rfl : ad161 = ad175 := (by injection e175)
  replace p175 := eq_true p175
  replace q175 := eq_true q175
  have p176 : 0 ≤ (x12_4 : Int) := of_decide_eq_true (by first | (with_reducible assumption) | assumption)
  have q176 : x12_4 < (y158.length : Int) := of_decide_eq_true (by first | (with_reducible assumption) | assumption)
  obtain ⟨ad176, e176, hx176_0, hx176_1, hx176_2⟩ := at_T23 (Kd.R_reads' HO_10.out).2.2 x12_4 p176 q176
  obtain rfl : ad161 = ad176 := (by injection e176)
  replace p176 := eq_true p176
  replace q176 := eq_true q176
  have p178 : 0 ≤ (x11_3 : Int) := of_decide_eq_true (by first | (with_reducible assumption) | assumption)
  have q178 : x11_3 < (y158.length : Int) := of_decide_eq_true (by first | (with_reducible assumption) | assumption)
  obtain ⟨ad178, e178, hx178_0, hx178_1, hx178_2⟩ := at_T23 (Kd.R_reads' HO_10.out).2.2 x11_3 p178 q178
  obtain rfl : ad161 = ad178 := (by injection e178)
  replace p178 := eq_true p178
  replace q178 := eq_true q178
  have p179 : 0 ≤ (x12_4 : Int) := of_decide_eq_true (by first | (with_reducible assumption) | assumption)
  have q179 : x12_4 < (y158.length : Int) := of_decide_eq_true (by first | (with_reducible assumption) | assumption)
  obtain ⟨ad179, e179, hx179_0, hx179_1, hx179_2⟩ := at_T23 (Kd.R_reads' HO_10.out).2.2 x12_4 p179 q179
  obtain rfl : ad161 = ad179 := (by injection e179)
  replace p179 := eq_true p179
  replace q179 := eq_true q179
  refine start_ (n := 35) (S := fun w' => w'.cell? ⟨gb165, 0, none⟩ = some (.int .i64 0) ∧ w'.cell? ⟨gb165, 1, none⟩ = some (.int .i64 0) ∧ w'.cell? ⟨gb165, 2, none⟩ = some (.string (⟨#[]⟩ : ByteArray)) ∧ w'.cell? ⟨gb165, 3, none⟩ = some (.string a0_3) ∧ w'.cell? ⟨gb165, 4, none⟩ = some (.slice Ao92 y162.length co92) ∧ w'.cell? ⟨gb170, 0, none⟩ = some (.int .i64 0) ∧ w'.cell? ⟨gb170, 1, none⟩ = some (.int .i64 0) ∧ w'.cell? ⟨gb170, 2, none⟩ = some (.string (⟨#[]⟩ : ByteArray)) ∧ w'.cell? ⟨gb170, 3, none⟩ = some (.string a0_3) ∧ w'.cell? ⟨gb170, 4, none⟩ = some (.slice Ao105 y167.length co105) ∧ w'.cell? (ad161.add ((x11_3).toNat * 3)) = some (.int .i64 ((rd_T23 y158 x11_3).f0)) ∧ w'.cell? ⟨(ad161.add ((x11_3).toNat * 3)).block, (ad161.add ((x11_3).toNat * 3)).off + 1, none⟩ = some (.int .i64 ((rd_T23 y158 x11_3).f1)) ∧ w'.cell? ⟨(ad161.add ((x11_3).toNat * 3)).block, (ad161.add ((x11_3).toNat * 3)).off + 2, none⟩ = some (.string ((rd_T23 y158 x11_3).f2)) ∧ w'.cell? (ad161.add ((x12_4).toNat * 3)) = some (.int .i64 ((rd_T23 y158 x12_4).f0)) ∧ w'.cell? ⟨(ad161.add ((x12_4).toNat * 3)).block, (ad161.add ((x12_4).toNat * 3)).off + 1, none⟩ = some (.int .i64 ((rd_T23 y158 x12_4).f1)) ∧ w'.cell? ⟨(ad161.add ((x12_4).toNat * 3)).block, (ad161.add ((x12_4).toNat * 3)).off + 2, none⟩ = some (.string ((rd_T23 y158 x12_4).f2)) ∧ w'.cell? (ad161.add ((x11_3).toNat * 3)) = some (.int .i64 ((rd_T23 y158 x11_3).f0)) ∧ w'.cell? ⟨(ad161.add ((x11_3).toNat * 3)).block, (ad161.add ((x11_3).toNat * 3)).off + 1, none⟩ = some (.int .i64 ((rd_T23 y158 x11_3).f1)) ∧ w'.cell? ⟨(ad161.add ((x11_3).toNat * 3)).block, (ad161.add ((x11_3).toNat * 3)).off + 2, none⟩ = some (.string ((rd_T23 y158 x11_3).f2)) ∧ w'.cell? (ad161.add ((x12_4).toNat * 3)) = some (.int .i64 ((rd_T23 y158 x12_4).f0)) ∧ w'.cell? ⟨(ad161.add ((x12_4).toNat * 3)).block, (ad161.add ((x12_4).toNat * 3)).off + 1, none⟩ = some (.int .i64 ((rd_T23 y158 x12_4).f1)) ∧ w'.cell? ⟨(ad161.add ((x12_4).toNat * 3)).block, (ad161.add ((x12_4).toNat * 3)).off + 2, none⟩ = some (.string ((rd_T23 y158 x12_4).f2)) ∧ w'.cell? (ad161.add ((x11_3).toNat * 3)) = some (.int .i64 ((rd_T23 y158 x11_3).f0)) ∧ w'.cell? ⟨(ad161.add ((x11_3).toNat * 3)).block, (ad161.add ((x11_3).toNat * 3)).off + 1, none⟩ = some (.int .i64 ((rd_T23 y158 x11_3).f1)) ∧ w'.cell? ⟨(ad161.add ((x11_3).toNat * 3)).block, (ad161.add ((x11_3).toNat * 3)).off + 2, none⟩ = some (.string ((rd_T23 y158 x11_3).f2)) ∧ w'.cell? (ad161.add ((x12_4).toNat * 3)) = some (.int .i64 ((rd_T23 y158 x12_4).f0)) ∧ w'.cell? ⟨(ad161.add ((x12_4).toNat * 3)).block, (ad161.add ((x12_4).toNat * 3)).off + 1, none⟩ = some (.int .i64 ((rd_T23 y158 x12_4).f1)) ∧ w'.cell? ⟨(ad161.add ((x12_4).toNat * 3)).block, (ad161.add ((x12_4).toNat * 3)).off + 2, none⟩ = some (.string ((rd_T23 y158 x12_4).f2))) (ds := []) #[false, false, false, false, false, false, false, false, false, false, false, false, false, false, false, false, false, false, false, false, false, false, false, false, false, false, false, false, false, false, false, false, false, false, false] (by as_aux_lemma => kernel_rfl) rfl rfl ⟨(qh BK165.out 0).trans rfl, (qh BK165.out 1).trans rfl, (qh BK165.out 2).trans rfl, (qh BK165.out 3).trans rfl, (qh BK165.out 4).trans rfl, (qh BK170.out 0).trans rfl, (qh BK170.out 1).trans rfl, (qh BK170.out 2).trans rfl, (qh BK170.out 3).trans rfl, (qh BK170.out 4).trans rfl, hx172_0, hx172_1, hx172_2, hx173_0, hx173_1, hx173_2, hx175_0, hx175_1, hx175_2, hx176_0, hx176_1, hx176_2, hx178_0, hx178_1, hx178_2, hx179_0, hx179_1, hx179_2⟩ (fun hHeld => ?_); refine with_tabW hearsaylaw02_TermOrder.tab17 hearsaylaw02_TermOrder.bits17 (fun HT_ HW_ => ?_)
  generalize w115.drew = w116 at HO_10 HO164 HO169 BK150 BK151 BK152 BK165 BK170 HB hx172_0 hx172_1 hx172_2 hx173_0 hx173_1 hx173_2 hx175_0 hx175_1 hx175_2 hx176_0 hx176_1 hx176_2 hx178_0 hx178_1 hx178_2 hx179_0 hx179_1 hx179_2 hHeld ⊢
  refine pure_ (i := 3) (N := some 114) (v := ?_) (a' := ?_) #[false, false, false, true, false, false, false, false, false, false, false, false, false, false, false, false, false, false, false, false, false, false, false, false, false, false, false, false, false, false, false, false, false, false, false] rfl rfl (any_of HT_.out (by as_aux_lemma => kernel_rfl)) (fun _ _ _ h => h) (Or.inl ⟨by rfl, ?_⟩) ?_ ?_
  rotate_left
  · intro w'
    go_simp
    with_reducible rfl
  rotate_left
  · simp only [Act.put, List.setIfInBounds_toArray, List.set_cons_zero, List.set_cons_succ, i64_w, i32_w]
    rfl
  refine pure_ (i := 4) (N := some 115) (v := ?_) (a' := ?_) #[false, false, false, true, true, false, false, false, false, false, false, false, false, false, false, false, false, false, false, false, false, false, false, false, false, false, false, false, false, false, false, false, false, false, false] rfl rfl (any_of HT_.out (by as_aux_lemma => kernel_rfl)) (fun _ _ _ h => h) (Or.inl ⟨by rfl, ?_⟩) ?_ ?_
  rotate_left
  · intro w'
    go_simp
    with_reducible rfl
  rotate_left
  · simp only [Act.put, List.setIfInBounds_toArray, List.set_cons_zero, List.set_cons_succ, i64_w, i32_w]
    rfl
  refine pure_ (i := 5) (N := some 116) (v := ?_) (a' := ?_) #[false, false, false, true, true, true, false, false, false, false, false, false, false, false, false, false, false, false, false, false, false, false, false, false, false, false, false, false, false, false, false, false, false, false, false] rfl rfl (any_of HT_.out (by as_aux_lemma => kernel_rfl)) (fun _ _ _ h => h) (Or.inl ⟨by rfl, ?_⟩) ?_ ?_
  rotate_left
  · intro w'
    go_simp
    with_reducible rfl
  rotate_left
  · simp only [Act.put, List.setIfInBounds_toArray, List.set_cons_zero, List.set_cons_succ, i64_w, i32_w]
    rfl
  refine pure_ (i := 7) (N := some 118) (v := ?_) (a' := ?_) #[false, false, false, true, true, true, false, true, false, false, false, false, false, false, false, false, false, false, false, false, false, false, false, false, false, false, false, false, false, false, false, false, false, false, false] rfl rfl (any_of HT_.out (by as_aux_lemma => kernel_rfl)) (fun _ _ _ h => h) (Or.inl ⟨by rfl, ?_⟩) ?_ ?_
  rotate_left
  · intro w'
    go_simp
    with_reducible rfl
  rotate_left
  · simp only [Act.put, List.setIfInBounds_toArray, List.set_cons_zero, List.set_cons_succ, i64_w, i32_w]
    rfl
  refine pure_ (i := 8) (N := some 119) (v := ?_) (a' := ?_) #[false, false, false, true, true, true, false, true, true, false, false, false, false, false, false, false, false, false, false, false, false, false, false, false, false, false, false, false, false, false, false, false, false, false, false] rfl rfl (any_of HT_.out (by as_aux_lemma => kernel_rfl)) (fun _ _ _ h => h) (Or.inl ⟨by rfl, ?_⟩) ?_ ?_
  rotate_left
  · intro w'
    go_simp
    with_reducible rfl
  rotate_left
  · simp only [Act.put, List.setIfInBounds_toArray, List.set_cons_zero, List.set_cons_succ, i64_w, i32_w]
    rfl
  refine pure_ (i := 9) (N := some 120) (v := ?_) (a' := ?_) #[false, false, false, true, true, true, false, true, true, true, false, false, false, false, false, false, false, false, false, false, false, false, false, false, false, false, false, false, false, false, false, false, false, false, false] rfl rfl (any_of HT_.out (by as_aux_lemma => kernel_rfl)) (fun _ _ _ h => h) (Or.inl ⟨by rfl, ?_⟩) ?_ ?_
  rotate_left
  · intro w'
    go_simp
    with_reducible rfl
  rotate_left
  · simp only [Act.put, List.setIfInBounds_toArray, List.set_cons_zero, List.set_cons_succ, i64_w, i32_w]
    rfl
  refine take_ (i := 0) (N := some 111) (v := ?_) (a' := ?_) #[true, false, false, true, true, true, false, true, true, true, false, false, false, false, false, false, false, false, false, false, false, false, false, false, false, false, false, false, false, false, false, false, false, false, false] rfl rfl (take_ofW HT_.out HW_.out (by as_aux_lemma => kernel_rfl)) (fun _ _ _ h => h) (Or.inl ⟨by rfl, ?_⟩) hHeld ?_ ?_
  rotate_left
  · rintro w' ⟨s0, s1, s2, s3, s4, s5, s6, s7, s8, s9, s10, s11, s12, s13, s14, s15, s16, s17, s18, s19, s20, s21, s22, s23, s24, s25, s26, s27⟩
    go_simp
    with_reducible rfl
  rotate_left
  · simp only [Act.put, List.setIfInBounds_toArray, List.set_cons_zero, List.set_cons_succ, i64_w, i32_w]
    rfl
  refine take_ (i := 1) (N := some 112) (v := ?_) (a' := ?_) #[true, true, false, true, true, true, false, true, true, true, false, false, false, false, false, false, false, false, false, false, false, false, false, false, false, false, false, false, false, false, false, false, false, false, false] rfl rfl (take_ofW HT_.out HW_.out (by as_aux_lemma => kernel_rfl)) (fun _ _ _ h => h) (Or.inl ⟨by rfl, ?_⟩) hHeld ?_ ?_
  rotate_left
  · rintro w' ⟨s0, s1, s2, s3, s4, s5, s6, s7, s8, s9, s10, s11, s12, s13, s14, s15, s16, s17, s18, s19, s20, s21, s22, s23, s24, s25, s26, s27⟩
    go_simp
    with_reducible rfl
  rotate_left
  · simp only [Act.put, List.setIfInBounds_toArray, List.set_cons_zero, List.set_cons_succ, i64_w, i32_w]
    rfl
  refine take_ (i := 6) (N := some 117) (v := ?_) (a' := ?_) #[true, true, false, true, true, true, true, true, true, true, false, false, false, false, false, false, false, false, false, false, false, false, false, false, false, false, false, false, false, false, false, false, false, false, false] rfl rfl (take_ofW HT_.out HW_.out (by as_aux_lemma => kernel_rfl)) (fun _ _ _ h => h) (Or.inl ⟨by rfl, ?_⟩) hHeld ?_ ?_
  rotate_left
  · rintro w' ⟨s0, s1, s2, s3, s4, s5, s6, s7, s8, s9, s10, s11, s12, s13, s14, s15, s16, s17, s18, s19, s20, s21, s22, s23, s24, s25, s26, s27⟩
    go_simp
    with_reducible rfl
  rotate_left
  · simp only [Act.put, List.setIfInBounds_toArray, List.set_cons_zero, List.set_cons_succ, i64_w, i32_w]
    rfl
  refine take_ (i := 10) (N := some 121) (v := ?_) (a' := ?_) #[true, true, false, true, true, true, true, true, true, true, true, false, false, false, false, false, false, false, false, false, false, false, false, false, false, false, false, false, false, false, false, false, false, false, false] rfl rfl (take_ofW HT_.out HW_.out (by as_aux_lemma => kernel_rfl)) (fun _ _ _ h => h) (Or.inl ⟨by rfl, ?_⟩) hHeld ?_ ?_
  rotate_left
  · rintro w' ⟨s0, s1, s2, s3, s4, s5, s6, s7, s8, s9, s10, s11, s12, s13, s14, s15, s16, s17, s18, s19, s20, s21, s22, s23, s24, s25, s26, s27⟩
    go_simp
    with_reducible rfl
  rotate_left
  · simp only [Act.put, List.setIfInBounds_toArray, List.set_cons_zero, List.set_cons_succ, i64_w, i32_w]
    rfl
  refine one_ (i := 2) (N := some 113) #[true, true, true, true, true, true, true, true, true, true, true, false, false, false, false, false, false, false, false, false, false, false, false, false, false, false, false, false, false, false, false, false, false, false, false] rfl rfl (one_of HT_.out (by as_aux_lemma => kernel_rfl)) (by decide) (fun K hK => ?_)
  refine goes_ Try.func15 (by as_aux_lemma => kernel_rfl) rfl #[.agg #[.int .i64 0, .int .i64 0, .string (⟨#[]⟩ : ByteArray), .string a0_3, .slice Ao92 y162.length co92], .agg #[.int .i64 0, .int .i64 0, .string (⟨#[]⟩ : ByteArray), .string a0_3, .slice Ao105 y167.length co105]] (by rfl) rfl rfl (by (try simp only [List.map_toArray, List.map_cons, List.map_nil]); first | done | rfl | (simp only [List.length_drop, List.length_take]; rfl)) ?_
  with_reducible refine (term_CompareAtoms.calls k4 0 0 (⟨#[]⟩ : ByteArray) a0_3 _ _ y162 0 0 (⟨#[]⟩ : ByteArray) a0_3 _ _ y167 t171 _ ?side1 ?side2 ?side3 ?side4 A111.out).mono ?_
  (case side1 => repeat (first | exact (Kd.R_reads' HO164.out).2.2 | (with_reducible refine Kd.C_alloc ?_ _) | (with_reducible refine Kd.C_drewN ?_ _) | (with_reducible refine Kd.C_drew ?_)))
  (case side2 => exact (Kd.R_reads' HO164.out).2.1)
  (case side3 => repeat (first | exact (Kd.R_reads' HO169.out).2.2 | (with_reducible refine Kd.C_alloc ?_ _) | (with_reducible refine Kd.C_drewN ?_ _) | (with_reducible refine Kd.C_drew ?_)))
  (case side4 => exact (Kd.R_reads' HO169.out).2.1)
  rintro e w117 ⟨rfl, hb⟩
  have HS10_ := (hb.cell (ql _ _ (hHeld.2.2.2.2.2.2.2.2.2.2.1))).trans (hHeld.2.2.2.2.2.2.2.2.2.2.1)
  have HS11_ := (hb.cell (ql _ _ (hHeld.2.2.2.2.2.2.2.2.2.2.2.1))).trans (hHeld.2.2.2.2.2.2.2.2.2.2.2.1)
  have HS12_ := (hb.cell (ql _ _ (hHeld.2.2.2.2.2.2.2.2.2.2.2.2.1))).trans (hHeld.2.2.2.2.2.2.2.2.2.2.2.2.1)
  have HS13_ := (hb.cell (ql _ _ (hHeld.2.2.2.2.2.2.2.2.2.2.2.2.2.1))).trans (hHeld.2.2.2.2.2.2.2.2.2.2.2.2.2.1)
  have HS14_ := (hb.cell (ql _ _ (hHeld.2.2.2.2.2.2.2.2.2.2.2.2.2.2.1))).trans (hHeld.2.2.2.2.2.2.2.2.2.2.2.2.2.2.1)
  have HS15_ := (hb.cell (ql _ _ (hHeld.2.2.2.2.2.2.2.2.2.2.2.2.2.2.2.1))).trans (hHeld.2.2.2.2.2.2.2.2.2.2.2.2.2.2.2.1)
  have HS16_ := (hb.cell (ql _ _ (hHeld.2.2.2.2.2.2.2.2.2.2.2.2.2.2.2.2.1))).trans (hHeld.2.2.2.2.2.2.2.2.2.2.2.2.2.2.2.2.1)
  have HS17_ := (hb.cell (ql _ _ (hHeld.2.2.2.2.2.2.2.2.2.2.2.2.2.2.2.2.2.1))).trans (hHeld.2.2.2.2.2.2.2.2.2.2.2.2.2.2.2.2.2.1)
  have HS18_ := (hb.cell (ql _ _ (hHeld.2.2.2.2.2.2.2.2.2.2.2.2.2.2.2.2.2.2.1))).trans (hHeld.2.2.2.2.2.2.2.2.2.2.2.2.2.2.2.2.2.2.1)
  have HS19_ := (hb.cell (ql _ _ (hHeld.2.2.2.2.2.2.2.2.2.2.2.2.2.2.2.2.2.2.2.1))).trans (hHeld.2.2.2.2.2.2.2.2.2.2.2.2.2.2.2.2.2.2.2.1)
  have HS20_ := (hb.cell (ql _ _ (hHeld.2.2.2.2.2.2.2.2.2.2.2.2.2.2.2.2.2.2.2.2.1))).trans (hHeld.2.2.2.2.2.2.2.2.2.2.2.2.2.2.2.2.2.2.2.2.1)
  have HS21_ := (hb.cell (ql _ _ (hHeld.2.2.2.2.2.2.2.2.2.2.2.2.2.2.2.2.2.2.2.2.2.1))).trans (hHeld.2.2.2.2.2.2.2.2.2.2.2.2.2.2.2.2.2.2.2.2.2.1)
  have HS22_ := (hb.cell (ql _ _ (hHeld.2.2.2.2.2.2.2.2.2.2.2.2.2.2.2.2.2.2.2.2.2.2.1))).trans (hHeld.2.2.2.2.2.2.2.2.2.2.2.2.2.2.2.2.2.2.2.2.2.2.1)
  have HS23_ := (hb.cell (ql _ _ (hHeld.2.2.2.2.2.2.2.2.2.2.2.2.2.2.2.2.2.2.2.2.2.2.2.1))).trans (hHeld.2.2.2.2.2.2.2.2.2.2.2.2.2.2.2.2.2.2.2.2.2.2.2.1)
  have HS24_ := (hb.cell (ql _ _ (hHeld.2.2.2.2.2.2.2.2.2.2.2.2.2.2.2.2.2.2.2.2.2.2.2.2.1))).trans (hHeld.2.2.2.2.2.2.2.2.2.2.2.2.2.2.2.2.2.2.2.2.2.2.2.2.1)
  have HS25_ := (hb.cell (ql _ _ (hHeld.2.2.2.2.2.2.2.2.2.2.2.2.2.2.2.2.2.2.2.2.2.2.2.2.2.1))).trans (hHeld.2.2.2.2.2.2.2.2.2.2.2.2.2.2.2.2.2.2.2.2.2.2.2.2.2.1)
  have HS26_ := (hb.cell (ql _ _ (hHeld.2.2.2.2.2.2.2.2.2.2.2.2.2.2.2.2.2.2.2.2.2.2.2.2.2.2.1))).trans (hHeld.2.2.2.2.2.2.2.2.2.2.2.2.2.2.2.2.2.2.2.2.2.2.2.2.2.2.1)
  have HS27_ := (hb.cell (ql _ _ (hHeld.2.2.2.2.2.2.2.2.2.2.2.2.2.2.2.2.2.2.2.2.2.2.2.2.2.2.2))).trans (hHeld.2.2.2.2.2.2.2.2.2.2.2.2.2.2.2.2.2.2.2.2.2.2.2.2.2.2.2)
  refine ⟨_, rfl, ?_⟩
  have n0_ := Aside0.mk (Kd.R_below (by (with_reducible repeat (first | apply qz | apply qx | apply qy)); exact HO_10.out) hb)
  have n1_ := Aside0.mk (Kd.R_below (by (with_reducible repeat (first | apply qz | apply qx | apply qy)); exact HO164.out) hb)
  have n2_ := Aside0.mk (Kd.R_below (by (with_reducible repeat (first | apply qz | apply qx | apply qy)); exact HO169.out) hb)
  have n3_ := Aside0.mk (qw (g := gb150) (o := .cells #[.int .i64 a0_0, .int .i64 a0_1, .string a0_2, .string a0_3, .slice A0_4 l0_4.length c0_4] 30 (0, 0)) (by (with_reducible repeat (first | refine qa ?_ _ | refine qb ?_ | refine qc ?_ _)); exact BK150.out) hb)
  have n4_ := Aside0.mk (qw (g := gb151) (o := .cells #[.int .i64 a1_0, .int .i64 a1_1, .string a1_2, .string a1_3, .slice A1_4 l1_4.length c1_4] 30 (0, 0)) (by (with_reducible repeat (first | refine qa ?_ _ | refine qb ?_ | refine qc ?_ _)); exact BK151.out) hb)
  have n5_ := Aside0.mk (qw (g := gb152) (o := .cells #[.int .i64 a2_0, .int .i64 a2_1, .string a2_2, .string a2_3, .slice A2_4 l2_4.length c2_4] 30 (0, 0)) (by (with_reducible repeat (first | refine qa ?_ _ | refine qb ?_ | refine qc ?_ _)); exact BK152.out) hb)
  have n6_ := Aside0.mk (qw (g := gb165) (o := .cells #[.int .i64 0, .int .i64 0, .string (⟨#[]⟩ : ByteArray), .string a0_3, .slice Ao92 y162.length co92] 30 (0, 0)) (by (with_reducible repeat (first | refine qa ?_ _ | refine qb ?_ | refine qc ?_ _)); exact BK165.out) hb)
  have n7_ := Aside0.mk (qw (g := gb170) (o := .cells #[.int .i64 0, .int .i64 0, .string (⟨#[]⟩ : ByteArray), .string a0_3, .slice Ao105 y167.length co105] 30 (0, 0)) (by (with_reducible repeat (first | refine qa ?_ _ | refine qb ?_ | refine qc ?_ _)); exact BK170.out) hb)
  have n8_ := Aside0.mk (below_step (by repeat (first | (with_reducible first | exact HB.out | apply qf | apply qn | apply qe | refine qd ?_ GE150.out | refine qd ?_ GE151.out | refine qd ?_ GE152.out | refine qd ?_ GE165.out | refine qd ?_ GE170.out) | exact HB.out)) hb)
  clear HO_10
  clear HO164
  clear HO169
  clear BK150
  clear BK151
  clear BK152
  clear BK165
  clear BK170
  clear HB
  have HO_10 := n0_
  have HO164 := n1_
  have HO169 := n2_
  have BK150 := n3_
  have BK151 := n4_
  have BK152 := n5_
  have BK165 := n6_
  have BK170 := n7_
  have HB := n8_
  clear n0_ n1_ n2_ n3_ n4_ n5_ n6_ n7_ n8_
  (try clear hb)
  (try clear hb2)
  (try clear hk)
  (try clear hi)
  refine hK.out _ _ ⟨(qh BK165.out 0).trans rfl, (qh BK165.out 1).trans rfl, (qh BK165.out 2).trans rfl, (qh BK165.out 3).trans rfl, (qh BK165.out 4).trans rfl, (qh BK170.out 0).trans rfl, (qh BK170.out 1).trans rfl, (qh BK170.out 2).trans rfl, (qh BK170.out 3).trans rfl, (qh BK170.out 4).trans rfl, HS10_, HS11_, HS12_, HS13_, HS14_, HS15_, HS16_, HS17_, HS18_, HS19_, HS20_, HS21_, HS22_, HS23_, HS24_, HS25_, HS26_, HS27_⟩ (fun hHeld => ?_)
  clear hK K
  refine norm_ (a' := ?_) ?_ ?_
  rotate_left
  · show Act.put _ (some 113) _ = _
    simp only [Act.put, List.setIfInBounds_toArray, List.set_cons_zero, List.set_cons_succ, i64_w, i32_w]
    rfl
  refine one_ (i := 11) (N := some 122) #[true, true, true, true, true, true, true, true, true, true, true, true, false, false, false, false, false, false, false, false, false, false, false, false, false, false, false, false, false, false, false, false, false, false, false] rfl rfl (one_of HT_.out (by as_aux_lemma => kernel_rfl)) (by decide) (fun K hK => ?_)
  refine goes_ Try.func12 (by as_aux_lemma => kernel_rfl) rfl #[.agg #[.int .i64 ((rd_T23 y158 x11_3).f0), .int .i64 ((rd_T23 y158 x11_3).f1), .string ((rd_T23 y158 x11_3).f2)], .agg #[.int .i64 ((rd_T23 y158 x12_4).f0), .int .i64 ((rd_T23 y158 x12_4).f1), .string ((rd_T23 y158 x12_4).f2)]] (by rfl) rfl rfl (by (try simp only [List.map_toArray, List.map_cons, List.map_nil]); first | done | rfl | (simp only [List.length_drop, List.length_take]; rfl)) ?_
  with_reducible refine (term_Compare.calls k4 ((rd_T23 y158 x11_3).f0) ((rd_T23 y158 x11_3).f1) ((rd_T23 y158 x11_3).f2) ((rd_T23 y158 x12_4).f0) ((rd_T23 y158 x12_4).f1) ((rd_T23 y158 x12_4).f2) t174 _ A112.out).mono ?_
  rintro e w118 ⟨rfl, hb⟩
  have HS10_ := (hb.cell (ql _ _ (hHeld.2.2.2.2.2.2.2.2.2.2.1))).trans (hHeld.2.2.2.2.2.2.2.2.2.2.1)
  have HS11_ := (hb.cell (ql _ _ (hHeld.2.2.2.2.2.2.2.2.2.2.2.1))).trans (hHeld.2.2.2.2.2.2.2.2.2.2.2.1)
  have HS12_ := (hb.cell (ql _ _ (hHeld.2.2.2.2.2.2.2.2.2.2.2.2.1))).trans (hHeld.2.2.2.2.2.2.2.2.2.2.2.2.1)
  have HS13_ := (hb.cell (ql _ _ (hHeld.2.2.2.2.2.2.2.2.2.2.2.2.2.1))).trans (hHeld.2.2.2.2.2.2.2.2.2.2.2.2.2.1)
  have HS14_ := (hb.cell (ql _ _ (hHeld.2.2.2.2.2.2.2.2.2.2.2.2.2.2.1))).trans (hHeld.2.2.2.2.2.2.2.2.2.2.2.2.2.2.1)
  have HS15_ := (hb.cell (ql _ _ (hHeld.2.2.2.2.2.2.2.2.2.2.2.2.2.2.2.1))).trans (hHeld.2.2.2.2.2.2.2.2.2.2.2.2.2.2.2.1)
  have HS16_ := (hb.cell (ql _ _ (hHeld.2.2.2.2.2.2.2.2.2.2.2.2.2.2.2.2.1))).trans (hHeld.2.2.2.2.2.2.2.2.2.2.2.2.2.2.2.2.1)
  have HS17_ := (hb.cell (ql _ _ (hHeld.2.2.2.2.2.2.2.2.2.2.2.2.2.2.2.2.2.1))).trans (hHeld.2.2.2.2.2.2.2.2.2.2.2.2.2.2.2.2.2.1)
  have HS18_ := (hb.cell (ql _ _ (hHeld.2.2.2.2.2.2.2.2.2.2.2.2.2.2.2.2.2.2.1))).trans (hHeld.2.2.2.2.2.2.2.2.2.2.2.2.2.2.2.2.2.2.1)
  have HS19_ := (hb.cell (ql _ _ (hHeld.2.2.2.2.2.2.2.2.2.2.2.2.2.2.2.2.2.2.2.1))).trans (hHeld.2.2.2.2.2.2.2.2.2.2.2.2.2.2.2.2.2.2.2.1)
  have HS20_ := (hb.cell (ql _ _ (hHeld.2.2.2.2.2.2.2.2.2.2.2.2.2.2.2.2.2.2.2.2.1))).trans (hHeld.2.2.2.2.2.2.2.2.2.2.2.2.2.2.2.2.2.2.2.2.1)
  have HS21_ := (hb.cell (ql _ _ (hHeld.2.2.2.2.2.2.2.2.2.2.2.2.2.2.2.2.2.2.2.2.2.1))).trans (hHeld.2.2.2.2.2.2.2.2.2.2.2.2.2.2.2.2.2.2.2.2.2.1)
  have HS22_ := (hb.cell (ql _ _ (hHeld.2.2.2.2.2.2.2.2.2.2.2.2.2.2.2.2.2.2.2.2.2.2.1))).trans (hHeld.2.2.2.2.2.2.2.2.2.2.2.2.2.2.2.2.2.2.2.2.2.2.1)
  have HS23_ := (hb.cell (ql _ _ (hHeld.2.2.2.2.2.2.2.2.2.2.2.2.2.2.2.2.2.2.2.2.2.2.2.1))).trans (hHeld.2.2.2.2.2.2.2.2.2.2.2.2.2.2.2.2.2.2.2.2.2.2.2.1)
  have HS24_ := (hb.cell (ql _ _ (hHeld.2.2.2.2.2.2.2.2.2.2.2.2.2.2.2.2.2.2.2.2.2.2.2.2.1))).trans (hHeld.2.2.2.2.2.2.2.2.2.2.2.2.2.2.2.2.2.2.2.2.2.2.2.2.1)
  have HS25_ := (hb.cell (ql _ _ (hHeld.2.2.2.2.2.2.2.2.2.2.2.2.2.2.2.2.2.2.2.2.2.2.2.2.2.1))).trans (hHeld.2.2.2.2.2.2.2.2.2.2.2.2.2.2.2.2.2.2.2.2.2.2.2.2.2.1)
  have HS26_ := (hb.cell (ql _ _ (hHeld.2.2.2.2.2.2.2.2.2.2.2.2.2.2.2.2.2.2.2.2.2.2.2.2.2.2.1))).trans (hHeld.2.2.2.2.2.2.2.2.2.2.2.2.2.2.2.2.2.2.2.2.2.2.2.2.2.2.1)
  have HS27_ := (hb.cell (ql _ _ (hHeld.2.2.2.2.2.2.2.2.2.2.2.2.2.2.2.2.2.2.2.2.2.2.2.2.2.2.2))).trans (hHeld.2.2.2.2.2.2.2.2.2.2.2.2.2.2.2.2.2.2.2.2.2.2.2.2.2.2.2)
  refine ⟨_, rfl, ?_⟩
  have n0_ := Aside0.mk (Kd.R_below (by (with_reducible repeat (first | apply qz | apply qx | apply qy)); exact HO_10.out) hb)
  have n1_ := Aside0.mk (Kd.R_below (by (with_reducible repeat (first | apply qz | apply qx | apply qy)); exact HO164.out) hb)
  have n2_ := Aside0.mk (Kd.R_below (by (with_reducible repeat (first | apply qz | apply qx | apply qy)); exact HO169.out) hb)
  have n3_ := Aside0.mk (qw (g := gb150) (o := .cells #[.int .i64 a0_0, .int .i64 a0_1, .string a0_2, .string a0_3, .slice A0_4 l0_4.length c0_4] 30 (0, 0)) (by (with_reducible repeat (first | refine qa ?_ _ | refine qb ?_ | refine qc ?_ _)); exact BK150.out) hb)
  have n4_ := Aside0.mk (qw (g := gb151) (o := .cells #[.int .i64 a1_0, .int .i64 a1_1, .string a1_2, .string a1_3, .slice A1_4 l1_4.length c1_4] 30 (0, 0)) (by (with_reducible repeat (first | refine qa ?_ _ | refine qb ?_ | refine qc ?_ _)); exact BK151.out) hb)
  have n5_ := Aside0.mk (qw (g := gb152) (o := .cells #[.int .i64 a2_0, .int .i64 a2_1, .string a2_2, .string a2_3, .slice A2_4 l2_4.length c2_4] 30 (0, 0)) (by (with_reducible repeat (first | refine qa ?_ _ | refine qb ?_ | refine qc ?_ _)); exact BK152.out) hb)
  have n6_ := Aside0.mk (qw (g := gb165) (o := .cells #[.int .i64 0, .int .i64 0, .string (⟨#[]⟩ : ByteArray), .string a0_3, .slice Ao92 y162.length co92] 30 (0, 0)) (by (with_reducible repeat (first | refine qa ?_ _ | refine qb ?_ | refine qc ?_ _)); exact BK165.out) hb)
  have n7_ := Aside0.mk (qw (g := gb170) (o := .cells #[.int .i64 0, .int .i64 0, .string (⟨#[]⟩ : ByteArray), .string a0_3, .slice Ao105 y167.length co105] 30 (0, 0)) (by (with_reducible repeat (first | refine qa ?_ _ | refine qb ?_ | refine qc ?_ _)); exact BK170.out) hb)
  have n8_ := Aside0.mk (below_step (by repeat (first | (with_reducible first | exact HB.out | apply qf | apply qn | apply qe | refine qd ?_ GE150.out | refine qd ?_ GE151.out | refine qd ?_ GE152.out | refine qd ?_ GE165.out | refine qd ?_ GE170.out) | exact HB.out)) hb)
  clear HO_10
  clear HO164
  clear HO169
  clear BK150
  clear BK151
  clear BK152
  clear BK165
  clear BK170
  clear HB
  have HO_10 := n0_
  have HO164 := n1_
  have HO169 := n2_
  have BK150 := n3_
  have BK151 := n4_
  have BK152 := n5_
  have BK165 := n6_
  have BK170 := n7_
  have HB := n8_
  clear n0_ n1_ n2_ n3_ n4_ n5_ n6_ n7_ n8_
  (try clear hb)
  (try clear hb2)
  (try clear hk)
  (try clear hi)
  refine hK.out _ _ ⟨(qh BK165.out 0).trans rfl, (qh BK165.out 1).trans rfl, (qh BK165.out 2).trans rfl, (qh BK165.out 3).trans rfl, (qh BK165.out 4).trans rfl, (qh BK170.out 0).trans rfl, (qh BK170.out 1).trans rfl, (qh BK170.out 2).trans rfl, (qh BK170.out 3).trans rfl, (qh BK170.out 4).trans rfl, HS10_, HS11_, HS12_, HS13_, HS14_, HS15_, HS16_, HS17_, HS18_, HS19_, HS20_, HS21_, HS22_, HS23_, HS24_, HS25_, HS26_, HS27_⟩ (fun hHeld => ?_)
  clear hK K
  refine norm_ (a' := ?_) ?_ ?_
  rotate_left
  · show Act.put _ (some 122) _ = _
    simp only [Act.put, List.setIfInBounds_toArray, List.set_cons_zero, List.set_cons_succ, i64_w, i32_w]
    rfl
  refine pure_ (i := 12) (N := some 123) (v := ?_) (a' := ?_) #[true, true, true, true, true, true, true, true, true, true, true, true, true, false, false, false, false, false, false, false, false, false, false, false, false, false, false, false, false, false, false, false, false, false, false] rfl rfl (any_of HT_.out (by as_aux_lemma => kernel_rfl)) (fun _ _ _ h => h) (Or.inl ⟨by rfl, ?_⟩) ?_ ?_
  rotate_left
  · intro w'
    go_simp
    with_reducible rfl
  rotate_left
  · simp only [Act.put, List.setIfInBounds_toArray, List.set_cons_zero, List.set_cons_succ, i64_w, i32_w]
    rfl
  refine pure_ (i := 13) (N := some 124) (v := ?_) (a' := ?_) #[true, true, true, true, true, true, true, true, true, true, true, true, true, true, false, false, false, false, false, false, false, false, false, false, false, false, false, false, false, false, false, false, false, false, false] rfl rfl (any_of HT_.out (by as_aux_lemma => kernel_rfl)) (fun _ _ _ h => h) (Or.inl ⟨by rfl, ?_⟩) ?_ ?_
  rotate_left
  · intro w'
    go_simp
    with_reducible rfl
  rotate_left
  · simp only [Act.put, List.setIfInBounds_toArray, List.set_cons_zero, List.set_cons_succ, i64_w, i32_w]
    rfl
  refine pure_ (i := 14) (N := some 125) (v := ?_) (a' := ?_) #[true, true, true, true, true, true, true, true, true, true, true, true, true, true, true, false, false, false, false, false, false, false, false, false, false, false, false, false, false, false, false, false, false, false, false] rfl rfl (any_of HT_.out (by as_aux_lemma => kernel_rfl)) (fun _ _ _ h => h) (Or.inl ⟨by rfl, ?_⟩) ?_ ?_
  rotate_left
  · intro w'
    go_simp
    with_reducible rfl
  rotate_left
  · simp only [Act.put, List.setIfInBounds_toArray, List.set_cons_zero, List.set_cons_succ, i64_w, i32_w]
    rfl
  refine pure_ (i := 15) (N := some 126) (v := ?_) (a' := ?_) #[true, true, true, true, true, true, true, true, true, true, true, true, true, true, true, true, false, false, false, false, false, false, false, false, false, false, false, false, false, false, false, false, false, false, false] rfl rfl (any_of HT_.out (by as_aux_lemma => kernel_rfl)) (fun _ _ _ h => h) (Or.inl ⟨by rfl, ?_⟩) ?_ ?_
  rotate_left
  · intro w'
    go_simp
    with_reducible rfl
  rotate_left
  · simp only [Act.put, List.setIfInBounds_toArray, List.set_cons_zero, List.set_cons_succ, i64_w, i32_w]
    rfl
  refine pure_ (i := 16) (N := some 127) (v := ?_) (a' := ?_) #[true, true, true, true, true, true, true, true, true, true, true, true, true, true, true, true, true, false, false, false, false, false, false, false, false, false, false, false, false, false, false, false, false, false, false] rfl rfl (any_of HT_.out (by as_aux_lemma => kernel_rfl)) (fun _ _ _ h => h) (Or.inl ⟨by rfl, ?_⟩) ?_ ?_
  rotate_left
  · intro w'
    go_simp
    with_reducible rfl
  rotate_left
  · simp only [Act.put, List.setIfInBounds_toArray, List.set_cons_zero, List.set_cons_succ, i64_w, i32_w]
    rfl
  refine pure_ (i := 18) (N := some 129) (v := ?_) (a' := ?_) #[true, true, true, true, true, true, true, true, true, true, true, true, true, true, true, true, true, false, true, false, false, false, false, false, false, false, false, false, false, false, false, false, false, false, false] rfl rfl (any_of HT_.out (by as_aux_lemma => kernel_rfl)) (fun _ _ _ h => h) (Or.inl ⟨by rfl, ?_⟩) ?_ ?_
  rotate_left
  · intro w'
    go_simp
    with_reducible rfl
  rotate_left
  · simp only [Act.put, List.setIfInBounds_toArray, List.set_cons_zero, List.set_cons_succ, i64_w, i32_w]
    rfl
  refine pure_ (i := 19) (N := some 130) (v := ?_) (a' := ?_) #[true, true, true, true, true, true, true, true, true, true, true, true, true, true, true, true, true, false, true, true, false, false, false, false, false, false, false, false, false, false, false, false, false, false, false] rfl rfl (any_of HT_.out (by as_aux_lemma => kernel_rfl)) (fun _ _ _ h => h) (Or.inl ⟨by rfl, ?_⟩) ?_ ?_
  rotate_left
  · intro w'
    go_simp
    with_reducible rfl
  rotate_left
  · simp only [Act.put, List.setIfInBounds_toArray, List.set_cons_zero, List.set_cons_succ, i64_w, i32_w]
    rfl
  refine pure_ (i := 20) (N := some 131) (v := ?_) (a' := ?_) #[true, true, true, true, true, true, true, true, true, true, true, true, true, true, true, true, true, false, true, true, true, false, false, false, false, false, false, false, false, false, false, false, false, false, false] rfl rfl (any_of HT_.out (by as_aux_lemma => kernel_rfl)) (fun _ _ _ h => h) (Or.inl ⟨by rfl, ?_⟩) ?_ ?_
  rotate_left
  · intro w'
    go_simp
    with_reducible rfl
  rotate_left
  · simp only [Act.put, List.setIfInBounds_toArray, List.set_cons_zero, List.set_cons_succ, i64_w, i32_w]
    rfl
  refine pure_ (i := 24) (N := some 135) (v := ?_) (a' := ?_) #[true, true, true, true, true, true, true, true, true, true, true, true, true, true, true, true, true, false, true, true, true, false, false, false, true, false, false, false, false, false, false, false, false, false, false] rfl rfl (any_of HT_.out (by as_aux_lemma => kernel_rfl)) (fun _ _ _ h => h) (Or.inl ⟨by rfl, ?_⟩) ?_ ?_
  rotate_left
  · intro w'
    go_simp
    with_reducible rfl
  rotate_left
  · simp only [Act.put, List.setIfInBounds_toArray, List.set_cons_zero, List.set_cons_succ, i64_w, i32_w]
    rfl
  refine pure_ (i := 25) (N := some 136) (v := ?_) (a' := ?_) #[true, true, true, true, true, true, true, true, true, true, true, true, true, true, true, true, true, false, true, true, true, false, false, false, true, true, false, false, false, false, false, false, false, false, false] rfl rfl (any_of HT_.out (by as_aux_lemma => kernel_rfl)) (fun _ _ _ h => h) (Or.inl ⟨by rfl, ?_⟩) ?_ ?_
  rotate_left
  · intro w'
    go_simp
    with_reducible rfl
  rotate_left
  · simp only [Act.put, List.setIfInBounds_toArray, List.set_cons_zero, List.set_cons_succ, i64_w, i32_w]
    rfl
  refine pure_ (i := 26) (N := some 137) (v := ?_) (a' := ?_) #[true, true, true, true, true, true, true, true, true, true, true, true, true, true, true, true, true, false, true, true, true, false, false, false, true, true, true, false, false, false, false, false, false, false, false] rfl rfl (any_of HT_.out (by as_aux_lemma => kernel_rfl)) (fun _ _ _ h => h) (Or.inl ⟨by rfl, ?_⟩) ?_ ?_
  rotate_left
  · intro w'
    go_simp
    with_reducible rfl
  rotate_left
  · simp only [Act.put, List.setIfInBounds_toArray, List.set_cons_zero, List.set_cons_succ, i64_w, i32_w]
    rfl
  refine pure_ (i := 28) (N := some 139) (v := ?_) (a' := ?_) #[true, true, true, true, true, true, true, true, true, true, true, true, true, true, true, true, true, false, true, true, true, false, false, false, true, true, true, false, true, false, false, false, false, false, false] rfl rfl (any_of HT_.out (by as_aux_lemma => kernel_rfl)) (fun _ _ _ h => h) (Or.inl ⟨by rfl, ?_⟩) ?_ ?_
  rotate_left
  · intro w'
    go_simp
    with_reducible rfl
  rotate_left
  · simp only [Act.put, List.setIfInBounds_toArray, List.set_cons_zero, List.set_cons_succ, i64_w, i32_w]
    rfl
  refine pure_ (i := 29) (N := some 140) (v := ?_) (a' := ?_) #[true, true, true, true, true, true, true, true, true, true, true, true, true, true, true, true, true, false, true, true, true, false, false, false, true, true, true, false, true, true, false, false, false, false, false] rfl rfl (any_of HT_.out (by as_aux_lemma => kernel_rfl)) (fun _ _ _ h => h) (Or.inl ⟨by rfl, ?_⟩) ?_ ?_
  rotate_left
  · intro w'
    go_simp
    with_reducible rfl
  rotate_left
  · simp only [Act.put, List.setIfInBounds_toArray, List.set_cons_zero, List.set_cons_succ, i64_w, i32_w]
    rfl
  refine pure_ (i := 30) (N := some 141) (v := ?_) (a' := ?_) #[true, true, true, true, true, true, true, true, true, true, true, true, true, true, true, true, true, false, true, true, true, false, false, false, true, true, true, false, true, true, true, false, false, false, false] rfl rfl (any_of HT_.out (by as_aux_lemma => kernel_rfl)) (fun _ _ _ h => h) (Or.inl ⟨by rfl, ?_⟩) ?_ ?_
  rotate_left
  · intro w'
    go_simp
    with_reducible rfl
  rotate_left
  · simp only [Act.put, List.setIfInBounds_toArray, List.set_cons_zero, List.set_cons_succ, i64_w, i32_w]
    rfl
  refine take_ (i := 17) (N := some 128) (v := ?_) (a' := ?_) #[true, true, true, true, true, true, true, true, true, true, true, true, true, true, true, true, true, true, true, true, true, false, false, false, true, true, true, false, true, true, true, false, false, false, false] rfl rfl (take_ofW HT_.out HW_.out (by as_aux_lemma => kernel_rfl)) (fun _ _ _ h => h) (Or.inl ⟨by rfl, ?_⟩) hHeld ?_ ?_
  rotate_left
  · rintro w' ⟨s0, s1, s2, s3, s4, s5, s6, s7, s8, s9, s10, s11, s12, s13, s14, s15, s16, s17, s18, s19, s20, s21, s22, s23, s24, s25, s26, s27⟩
    go_simp
    with_reducible rfl
  rotate_left
  · simp only [Act.put, List.setIfInBounds_toArray, List.set_cons_zero, List.set_cons_succ, i64_w, i32_w]
    rfl
  refine take_ (i := 21) (N := some 132) (v := ?_) (a' := ?_) #[true, true, true, true, true, true, true, true, true, true, true, true, true, true, true, true, true, true, true, true, true, true, false, false, true, true, true, false, true, true, true, false, false, false, false] rfl rfl (take_ofW HT_.out HW_.out (by as_aux_lemma => kernel_rfl)) (fun _ _ _ h => h) (Or.inl ⟨by rfl, ?_⟩) hHeld ?_ ?_
  rotate_left
  · rintro w' ⟨s0, s1, s2, s3, s4, s5, s6, s7, s8, s9, s10, s11, s12, s13, s14, s15, s16, s17, s18, s19, s20, s21, s22, s23, s24, s25, s26, s27⟩
    go_simp
    with_reducible rfl
  rotate_left
  · simp only [Act.put, List.setIfInBounds_toArray, List.set_cons_zero, List.set_cons_succ, i64_w, i32_w]
    rfl
  refine take_ (i := 27) (N := some 138) (v := ?_) (a' := ?_) #[true, true, true, true, true, true, true, true, true, true, true, true, true, true, true, true, true, true, true, true, true, true, false, false, true, true, true, true, true, true, true, false, false, false, false] rfl rfl (take_ofW HT_.out HW_.out (by as_aux_lemma => kernel_rfl)) (fun _ _ _ h => h) (Or.inl ⟨by rfl, ?_⟩) hHeld ?_ ?_
  rotate_left
  · rintro w' ⟨s0, s1, s2, s3, s4, s5, s6, s7, s8, s9, s10, s11, s12, s13, s14, s15, s16, s17, s18, s19, s20, s21, s22, s23, s24, s25, s26, s27⟩
    go_simp
    with_reducible rfl
  rotate_left
  · simp only [Act.put, List.setIfInBounds_toArray, List.set_cons_zero, List.set_cons_succ, i64_w, i32_w]
    rfl
  refine take_ (i := 31) (N := some 142) (v := ?_) (a' := ?_) #[true, true, true, true, true, true, true, true, true, true, true, true, true, true, true, true, true, true, true, true, true, true, false, false, true, true, true, true, true, true, true, true, false, false, false] rfl rfl (take_ofW HT_.out HW_.out (by as_aux_lemma => kernel_rfl)) (fun _ _ _ h => h) (Or.inl ⟨by rfl, ?_⟩) hHeld ?_ ?_
  rotate_left
  · rintro w' ⟨s0, s1, s2, s3, s4, s5, s6, s7, s8, s9, s10, s11, s12, s13, s14, s15, s16, s17, s18, s19, s20, s21, s22, s23, s24, s25, s26, s27⟩
    go_simp
    with_reducible rfl
  rotate_left
  · simp only [Act.put, List.setIfInBounds_toArray, List.set_cons_zero, List.set_cons_succ, i64_w, i32_w]
    rfl
  refine pure_ (i := 32) (N := some 143) (v := ?_) (a' := ?_) #[true, true, true, true, true, true, true, true, true, true, true, true, true, true, true, true, true, true, true, true, true, true, false, false, true, true, true, true, true, true, true, true, true, false, false] rfl rfl (any_of HT_.out (by as_aux_lemma => kernel_rfl)) (fun _ _ _ h => h) (Or.inl ⟨by rfl, ?_⟩) ?_ ?_
  rotate_left
  · intro w'
    go_simp
    with_reducible rfl
  rotate_left
  · simp only [Act.put, List.setIfInBounds_toArray, List.set_cons_zero, List.set_cons_succ, i64_w, i32_w]
    rfl
  refine one_ (i := 22) (N := some 133) #[true, true, true, true, true, true, true, true, true, true, true, true, true, true, true, true, true, true, true, true, true, true, true, false, true, true, true, true, true, true, true, true, true, false, false] rfl rfl (one_of HT_.out (by as_aux_lemma => kernel_rfl)) (by decide) (fun K hK => ?_)
  refine goes_ Try.func12 (by as_aux_lemma => kernel_rfl) rfl #[.agg #[.int .i64 ((rd_T23 y158 x11_3).f0), .int .i64 ((rd_T23 y158 x11_3).f1), .string ((rd_T23 y158 x11_3).f2)], .agg #[.int .i64 ((rd_T23 y158 x12_4).f0), .int .i64 ((rd_T23 y158 x12_4).f1), .string ((rd_T23 y158 x12_4).f2)]] (by rfl) rfl rfl (by (try simp only [List.map_toArray, List.map_cons, List.map_nil]); first | done | rfl | (simp only [List.length_drop, List.length_take]; rfl)) ?_
  with_reducible refine (term_Compare.calls k4 ((rd_T23 y158 x11_3).f0) ((rd_T23 y158 x11_3).f1) ((rd_T23 y158 x11_3).f2) ((rd_T23 y158 x12_4).f0) ((rd_T23 y158 x12_4).f1) ((rd_T23 y158 x12_4).f2) t177 _ A114.out).mono ?_
  rintro e w119 ⟨rfl, hb⟩
  have HS10_ := (hb.cell (ql _ _ (hHeld.2.2.2.2.2.2.2.2.2.2.1))).trans (hHeld.2.2.2.2.2.2.2.2.2.2.1)
  have HS11_ := (hb.cell (ql _ _ (hHeld.2.2.2.2.2.2.2.2.2.2.2.1))).trans (hHeld.2.2.2.2.2.2.2.2.2.2.2.1)
  have HS12_ := (hb.cell (ql _ _ (hHeld.2.2.2.2.2.2.2.2.2.2.2.2.1))).trans (hHeld.2.2.2.2.2.2.2.2.2.2.2.2.1)
  have HS13_ := (hb.cell (ql _ _ (hHeld.2.2.2.2.2.2.2.2.2.2.2.2.2.1))).trans (hHeld.2.2.2.2.2.2.2.2.2.2.2.2.2.1)
  have HS14_ := (hb.cell (ql _ _ (hHeld.2.2.2.2.2.2.2.2.2.2.2.2.2.2.1))).trans (hHeld.2.2.2.2.2.2.2.2.2.2.2.2.2.2.1)
  have HS15_ := (hb.cell (ql _ _ (hHeld.2.2.2.2.2.2.2.2.2.2.2.2.2.2.2.1))).trans (hHeld.2.2.2.2.2.2.2.2.2.2.2.2.2.2.2.1)
  have HS16_ := (hb.cell (ql _ _ (hHeld.2.2.2.2.2.2.2.2.2.2.2.2.2.2.2.2.1))).trans (hHeld.2.2.2.2.2.2.2.2.2.2.2.2.2.2.2.2.1)
  have HS17_ := (hb.cell (ql _ _ (hHeld.2.2.2.2.2.2.2.2.2.2.2.2.2.2.2.2.2.1))).trans (hHeld.2.2.2.2.2.2.2.2.2.2.2.2.2.2.2.2.2.1)
  have HS18_ := (hb.cell (ql _ _ (hHeld.2.2.2.2.2.2.2.2.2.2.2.2.2.2.2.2.2.2.1))).trans (hHeld.2.2.2.2.2.2.2.2.2.2.2.2.2.2.2.2.2.2.1)
  have HS19_ := (hb.cell (ql _ _ (hHeld.2.2.2.2.2.2.2.2.2.2.2.2.2.2.2.2.2.2.2.1))).trans (hHeld.2.2.2.2.2.2.2.2.2.2.2.2.2.2.2.2.2.2.2.1)
  have HS20_ := (hb.cell (ql _ _ (hHeld.2.2.2.2.2.2.2.2.2.2.2.2.2.2.2.2.2.2.2.2.1))).trans (hHeld.2.2.2.2.2.2.2.2.2.2.2.2.2.2.2.2.2.2.2.2.1)
  have HS21_ := (hb.cell (ql _ _ (hHeld.2.2.2.2.2.2.2.2.2.2.2.2.2.2.2.2.2.2.2.2.2.1))).trans (hHeld.2.2.2.2.2.2.2.2.2.2.2.2.2.2.2.2.2.2.2.2.2.1)
  have HS22_ := (hb.cell (ql _ _ (hHeld.2.2.2.2.2.2.2.2.2.2.2.2.2.2.2.2.2.2.2.2.2.2.1))).trans (hHeld.2.2.2.2.2.2.2.2.2.2.2.2.2.2.2.2.2.2.2.2.2.2.1)
  have HS23_ := (hb.cell (ql _ _ (hHeld.2.2.2.2.2.2.2.2.2.2.2.2.2.2.2.2.2.2.2.2.2.2.2.1))).trans (hHeld.2.2.2.2.2.2.2.2.2.2.2.2.2.2.2.2.2.2.2.2.2.2.2.1)
  have HS24_ := (hb.cell (ql _ _ (hHeld.2.2.2.2.2.2.2.2.2.2.2.2.2.2.2.2.2.2.2.2.2.2.2.2.1))).trans (hHeld.2.2.2.2.2.2.2.2.2.2.2.2.2.2.2.2.2.2.2.2.2.2.2.2.1)
  have HS25_ := (hb.cell (ql _ _ (hHeld.2.2.2.2.2.2.2.2.2.2.2.2.2.2.2.2.2.2.2.2.2.2.2.2.2.1))).trans (hHeld.2.2.2.2.2.2.2.2.2.2.2.2.2.2.2.2.2.2.2.2.2.2.2.2.2.1)
  have HS26_ := (hb.cell (ql _ _ (hHeld.2.2.2.2.2.2.2.2.2.2.2.2.2.2.2.2.2.2.2.2.2.2.2.2.2.2.1))).trans (hHeld.2.2.2.2.2.2.2.2.2.2.2.2.2.2.2.2.2.2.2.2.2.2.2.2.2.2.1)
  have HS27_ := (hb.cell (ql _ _ (hHeld.2.2.2.2.2.2.2.2.2.2.2.2.2.2.2.2.2.2.2.2.2.2.2.2.2.2.2))).trans (hHeld.2.2.2.2.2.2.2.2.2.2.2.2.2.2.2.2.2.2.2.2.2.2.2.2.2.2.2)
  refine ⟨_, rfl, ?_⟩
  have n0_ := Aside0.mk (Kd.R_below (by (with_reducible repeat (first | apply qz | apply qx | apply qy)); exact HO_10.out) hb)
  have n1_ := Aside0.mk (Kd.R_below (by (with_reducible repeat (first | apply qz | apply qx | apply qy)); exact HO164.out) hb)
  have n2_ := Aside0.mk (Kd.R_below (by (with_reducible repeat (first | apply qz | apply qx | apply qy)); exact HO169.out) hb)
  have n3_ := Aside0.mk (qw (g := gb150) (o := .cells #[.int .i64 a0_0, .int .i64 a0_1, .string a0_2, .string a0_3, .slice A0_4 l0_4.length c0_4] 30 (0, 0)) (by (with_reducible repeat (first | refine qa ?_ _ | refine qb ?_ | refine qc ?_ _)); exact BK150.out) hb)
  have n4_ := Aside0.mk (qw (g := gb151) (o := .cells #[.int .i64 a1_0, .int .i64 a1_1, .string a1_2, .string a1_3, .slice A1_4 l1_4.length c1_4] 30 (0, 0)) (by (with_reducible repeat (first | refine qa ?_ _ | refine qb ?_ | refine qc ?_ _)); exact BK151.out) hb)
  have n5_ := Aside0.mk (qw (g := gb152) (o := .cells #[.int .i64 a2_0, .int .i64 a2_1, .string a2_2, .string a2_3, .slice A2_4 l2_4.length c2_4] 30 (0, 0)) (by (with_reducible repeat (first | refine qa ?_ _ | refine qb ?_ | refine qc ?_ _)); exact BK152.out) hb)
  have n6_ := Aside0.mk (qw (g := gb165) (o := .cells #[.int .i64 0, .int .i64 0, .string (⟨#[]⟩ : ByteArray), .string a0_3, .slice Ao92 y162.length co92] 30 (0, 0)) (by (with_reducible repeat (first | refine qa ?_ _ | refine qb ?_ | refine qc ?_ _)); exact BK165.out) hb)
  have n7_ := Aside0.mk (qw (g := gb170) (o := .cells #[.int .i64 0, .int .i64 0, .string (⟨#[]⟩ : ByteArray), .string a0_3, .slice Ao105 y167.length co105] 30 (0, 0)) (by (with_reducible repeat (first | refine qa ?_ _ | refine qb ?_ | refine qc ?_ _)); exact BK170.out) hb)
  have n8_ := Aside0.mk (below_step (by repeat (first | (with_reducible first | exact HB.out | apply qf | apply qn | apply qe | refine qd ?_ GE150.out | refine qd ?_ GE151.out | refine qd ?_ GE152.out | refine qd ?_ GE165.out | refine qd ?_ GE170.out) | exact HB.out)) hb)
  clear HO_10
  clear HO164
  clear HO169
  clear BK150
  clear BK151
  clear BK152
  clear BK165
  clear BK170
  clear HB
  have HO_10 := n0_
  have HO164 := n1_
  have HO169 := n2_
  have BK150 := n3_
  have BK151 := n4_
  have BK152 := n5_
  have BK165 := n6_
  have BK170 := n7_
  have HB := n8_
  clear n0_ n1_ n2_ n3_ n4_ n5_ n6_ n7_ n8_
  (try clear hb)
  (try clear hb2)
  (try clear hk)
  (try clear hi)
  refine hK.out _ _ ⟨(qh BK165.out 0).trans rfl, (qh BK165.out 1).trans rfl, (qh BK165.out 2).trans rfl, (qh BK165.out 3).trans rfl, (qh BK165.out 4).trans rfl, (qh BK170.out 0).trans rfl, (qh BK170.out 1).trans rfl, (qh BK170.out 2).trans rfl, (qh BK170.out 3).trans rfl, (qh BK170.out 4).trans rfl, HS10_, HS11_, HS12_, HS13_, HS14_, HS15_, HS16_, HS17_, HS18_, HS19_, HS20_, HS21_, HS22_, HS23_, HS24_, HS25_, HS26_, HS27_⟩ (fun hHeld => ?_)
  clear hK K
  refine norm_ (a' := ?_) ?_ ?_
  rotate_left
  · show Act.put _ (some 133) _ = _
    simp only [Act.put, List.setIfInBounds_toArray, List.set_cons_zero, List.set_cons_succ, i64_w, i32_w]
    rfl
  refine pure_ (i := 23) (N := some 134) (v := ?_) (a' := ?_) #[true, true, true, true, true, true, true, true, true, true, true, true, true, true, true, true, true, true, true, true, true, true, true, true, true, true, true, true, true, true, true, true, true, false, false] rfl rfl (any_of HT_.out (by as_aux_lemma => kernel_rfl)) (fun _ _ _ h => h) (Or.inl ⟨by rfl, ?_⟩) ?_ ?_
  rotate_left
  · intro w'
    go_simp
    with_reducible rfl
  rotate_left
  · simp only [Act.put, List.setIfInBounds_toArray, List.set_cons_zero, List.set_cons_succ, i64_w, i32_w]
    rfl
  refine pure_ (i := 33) (N := some 144) (v := ?_) (a' := ?_) #[true, true, true, true, true, true, true, true, true, true, true, true, true, true, true, true, true, true, true, true, true, true, true, true, true, true, true, true, true, true, true, true, true, true, false] rfl rfl (any_of HT_.out (by as_aux_lemma => kernel_rfl)) (fun _ _ _ h => h) (Or.inl ⟨by rfl, ?_⟩) ?_ ?_
  rotate_left
  · intro w'
    go_simp
    with_reducible rfl
  rotate_left
  · simp only [Act.put, List.setIfInBounds_toArray, List.set_cons_zero, List.set_cons_succ, i64_w, i32_w]
    rfl
  refine pure_ (i := 34) (N := some 145) (v := ?_) (a' := ?_) #[true, true, true, true, true, true, true, true, true, true, true, true, true, true, true, true, true, true, true, true, true, true, true, true, true, true, true, true, true, true, true, true, true, true, true] rfl rfl (any_of HT_.out (by as_aux_lemma => kernel_rfl)) (fun _ _ _ h => h) (Or.inl ⟨by rfl, ?_⟩) ?_ ?_
  rotate_left
  · intro w'
    go_simp
    with_reducible rfl
  rotate_left
  · simp only [Act.put, List.setIfInBounds_toArray, List.set_cons_zero, List.set_cons_succ, i64_w, i32_w]
    rfl
  refine done_ (done_of HT_.out (by as_aux_lemma => kernel_rfl)) ?_
  try go_wp2
  go_meet
  exact ⟨_, (((t177 == 0) != (((rd_T23 y158 x11_3).f0) == ((rd_T23 y158 x12_4).f0) && (((rd_T23 y158 x11_3).f1) == ((rd_T23 y158 x12_4).f1) && ((((rd_T23 y158 x11_3).f2).toList) == (((rd_T23 y158 x12_4).f2).toList)))))), (by first | rfl | (simp; done) | (simp [*]; done)), H', ⟨by have := HJ6.out; have := HJ43.out; have := HK3.out; have := HK4.out; first | omega | exact Nat.le_refl _⟩, ⟨by (with_reducible repeat (first | apply qz | apply qx | apply qy)); exact HO_10.out⟩, ⟨by (with_reducible repeat (first | apply qz | apply qx | apply qy)); exact HO164.out⟩, ⟨by (with_reducible repeat (first | apply qz | apply qx | apply qy)); exact HO169.out⟩, ⟨by (with_reducible repeat (first | refine qa ?_ _ | refine qb ?_ | refine qc ?_ _)); exact BK150.out⟩, ⟨by (with_reducible repeat (first | refine qa ?_ _ | refine qb ?_ | refine qc ?_ _)); exact BK151.out⟩, ⟨by (with_reducible repeat (first | refine qa ?_ _ | refine qb ?_ | refine qc ?_ _)); exact BK152.out⟩, ⟨by (with_reducible repeat (first | refine qa ?_ _ | refine qb ?_ | refine qc ?_ _)); exact BK165.out⟩, ⟨by (with_reducible repeat (first | refine qa ?_ _ | refine qb ?_ | refine qc ?_ _)); exact BK170.out⟩, ⟨by repeat (first | (with_reducible first | exact HB.out | apply qf | apply qn | apply qe | refine qd ?_ GE150.out | refine qd ?_ GE151.out | refine qd ?_ GE152.out | refine qd ?_ GE165.out | refine qd ?_ GE170.out) | exact HB.out)⟩⟩
 clear HC84
 obtain ⟨kq, x145_83, rfl, HA, HJ83, HO_10, HO_166004, HO_171004, BK150, BK151, BK152, BK165, BK170, HB⟩ := hcut
 rcases kq with _ | kj83
 · exact absurd HA.out (by simp [hearsaylaw02_TermOrder.j4])
 have H := HA.out
 clear HA
 simp only [hearsaylaw02_TermOrder.j4] at H
 by_cases c124 : x145_83 = true
 ·
  subst c124
  have H1 : (some false) = some r := by rw [if_pos rfl] at H; exact H
  clear H
  have H := H1
  clear H1
  obtain rfl := Option.some.inj H
  go_wp2
  go_ret
  exact ⟨by first | rfl | (simp [errW_none, errW_some] <;> rfl) | (simp [errW_none, errW_some, bne, show ∀ l_ : List UInt8, (l_ == []) = l_.isEmpty from fun l_ => by cases l_ <;> rfl]; done) | (simp [*, errW_none, errW_some] <;> rfl), by repeat (first | (with_reducible first | exact HB.out | apply qf | apply qn | apply qe | refine qd ?_ GE150.out | refine qd ?_ GE151.out | refine qd ?_ GE152.out | refine qd ?_ GE165.out | refine qd ?_ GE170.out) | exact HB.out)⟩
 replace c124 := Bool.eq_false_iff.mpr c124
 subst c124
 have H1 : (hearsaylaw02_TermOrder.l1 kj83 y158 x11_3 (wrap64 (x12_4 + 1)) a0_0 a0_1 a0_2 a0_3 l0_4) = some r := by rw [if_neg (show ¬ (false = true) by decide)] at H; exact H
 clear H
 have H := H1
 clear H1
 have H' := Aside0.mk H
 clear H
 go_wp2
 go_roundg kj83
 case measure => have := HJ6.out; have := HJ43.out; have := HK3.out; have := HK4.out; have := HJ83.out; omega
 exact ⟨(wrap64 (x12_4 + 1)), (by first | rfl | (simp; done) | (simp [*]; done)), H', ⟨by have := HJ6.out; have := HJ43.out; have := HK3.out; have := HK4.out; have := HJ83.out; omega⟩, ⟨by (with_reducible repeat (first | apply qz | apply qx | apply qy)); exact Kd.R_mono HO_10.out (fun _ hk => trivial)⟩, ⟨by (with_reducible repeat (first | refine qa ?_ _ | refine qb ?_ | refine qc ?_ _)); exact BK150.out⟩, ⟨by (with_reducible repeat (first | refine qa ?_ _ | refine qb ?_ | refine qc ?_ _)); exact BK151.out⟩, ⟨by (with_reducible repeat (first | refine qa ?_ _ | refine qb ?_ | refine qc ?_ _)); exact BK152.out⟩, ⟨by repeat (first | (with_reducible first | exact HB.out | apply qf | apply qn | apply qe | refine qd ?_ GE150.out | refine qd ?_ GE151.out | refine qd ?_ GE152.out | refine qd ?_ GE165.out | refine qd ?_ GE170.out) | exact HB.out)⟩⟩
end Go.Proofs.Ytnomgmlfagiffaa.T
