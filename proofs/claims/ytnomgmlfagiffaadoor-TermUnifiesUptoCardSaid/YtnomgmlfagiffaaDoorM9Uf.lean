/- TUf: texts of this claim, laid together. -/
import Derived.Test.YtnomgmlfagiffaaDoorM8Uf
/- By a program of this session (wip/tools/squeeze.py), out of the translation: hearsaylaw02_TermUnifies, its contract. -/
namespace Go.Proofs.YtnomgmlfagiffaaDoor.T
open Go.RowKit Go.Proofs.YtnomgmlfagiffaaDoorW.PrintWords Go.Proofs.YtnomgmlfagiffaaDoorW.PrintLast Go.Proofs.YtnomgmlfagiffaaDoorW.PrintMore
attribute [local go_sem] max2_int min2_int max_two min_two max_three min_three max_four min_four   -- for this text's walks alone
set_option linter.unusedVariables false
set_option linter.unusedSimpArgs false

set_option maxHeartbeats 8000000 in
set_option maxRecDepth 100000 in
theorem hearsaylaw02_TermUnifies.calls (k : Nat) (a0_0 : Int) (a0_1 : Int) (a0_2 : ByteArray) (a0_3 : ByteArray) (A0_4 : Option Addr) (c0_4 : Nat) (l0_4 : List (S23)) (a1_0 : Int) (a1_1 : Int) (a1_2 : ByteArray) (a1_3 : ByteArray) (A1_4 : Option Addr) (c1_4 : Nat) (l1_4 : List (S23)) (A2 : Option Addr) (c2 : Nat) (l2 : List (S44)) (r : Bool) (hr1 : r = true) (w : World) (hr0_4 : Kd.C k23 w A0_4 l0_4.length l0_4) (hc0_4 : l0_4.length ≤ c0_4) (hr1_4 : Kd.C k23 w A1_4 l1_4.length l1_4) (hc1_4 : l1_4.length ≤ c1_4) (hr2 : Kd.C k44 w A2 l2.length l2) (hc2 : l2.length ≤ c2) (hLD2 : Laid2 w) (h : hearsaylaw02_TermUnifies.f k a0_0 a0_1 a0_2 a0_3 l0_4 a1_0 a1_1 a1_2 a1_3 l1_4 l2 = some r) :
 Calls Tryd.prog 9 #[.agg #[.int .i64 a0_0, .int .i64 a0_1, .string a0_2, .string a0_3, .slice A0_4 l0_4.length c0_4], .agg #[.int .i64 a1_0, .int .i64 a1_1, .string a1_2, .string a1_3, .slice A1_4 l1_4.length c1_4], .slice A2 l2.length c2] w fun e w' => e = .returned (.bool r) ∧ Below w.heap.size w w' := by
 have HR1 := Aside0.mk hr1
 clear hr1
 have hu26 := Tryd.underlying26
 have hu23 := Tryd.underlying23
 have HLD2 := Aside0.mk hLD2
 clear hLD2
 have HR0_4 := Aside0.mk hr0_4
 have HC0_4 := Aside0.mk hc0_4
 clear hr0_4 hc0_4
 have HR1_4 := Aside0.mk hr1_4
 have HC1_4 := Aside0.mk hc1_4
 clear hr1_4 hc1_4
 have HR2 := Aside0.mk hr2
 have HC2 := Aside0.mk hc2
 clear hr2 hc2
 have HB := Aside0.mk (Below.refl w.heap.size w)
 have H : ((term_Unify.f a0_0 a0_1 a0_2 a0_3 l0_4 a1_0 a1_1 a1_2 a1_3 l1_4).bind fun bt175 => ((term_Apply.f k bt175.1 a0_0 a0_1 a0_2 a0_3 l0_4).bind fun bt179 => (if bt175.2 = true then ((hearsaylaw02_rising.f k bt175.1).bind fun t187 => (if t187 = true then ((term_Apply.f k bt175.1 a1_0 a1_1 a1_2 a1_3 l1_4).bind fun bt188 => ((hearsaylaw02_same.f k bt179.1 bt179.2.1 bt179.2.2.1 bt179.2.2.2.1 bt179.2.2.2.2 bt188.1 bt188.2.1 bt188.2.2.1 bt188.2.2.2.1 bt188.2.2.2.2).bind fun t195 => (if t195 = true then ((term_Apply.f k bt175.1 bt179.1 bt179.2.1 bt179.2.2.1 bt179.2.2.2.1 bt179.2.2.2.2).bind fun bt196 => ((hearsaylaw02_same.f k bt196.1 bt196.2.1 bt196.2.2.1 bt196.2.2.2.1 bt196.2.2.2.2 bt179.1 bt179.2.1 bt179.2.2.1 bt179.2.2.2.1 bt179.2.2.2.2).bind fun t203 => (if t203 = true then ((hearsaylaw02_fits.f k bt175.1 a0_0 a0_1 a0_2).bind fun t204 => (if t204 = true then ((hearsaylaw02_fits.f k bt175.1 a1_0 a1_1 a1_2).bind fun t205 => (hearsaylaw02_TermUnifies.j0 k l2 bt175.1 bt175.2 (!t205) a0_0 a0_1 a0_2 a0_3 l0_4 a1_0 a1_1 a1_2 a1_3 l1_4 bt179.1 bt179.2.1 bt179.2.2.1 bt179.2.2.2.1 bt179.2.2.2.2)) else (hearsaylaw02_TermUnifies.j0 k l2 bt175.1 bt175.2 true a0_0 a0_1 a0_2 a0_3 l0_4 a1_0 a1_1 a1_2 a1_3 l1_4 bt179.1 bt179.2.1 bt179.2.2.1 bt179.2.2.2.1 bt179.2.2.2.2))) else (hearsaylaw02_TermUnifies.j0 k l2 bt175.1 bt175.2 true a0_0 a0_1 a0_2 a0_3 l0_4 a1_0 a1_1 a1_2 a1_3 l1_4 bt179.1 bt179.2.1 bt179.2.2.1 bt179.2.2.2.1 bt179.2.2.2.2)))) else (hearsaylaw02_TermUnifies.j0 k l2 bt175.1 bt175.2 true a0_0 a0_1 a0_2 a0_3 l0_4 a1_0 a1_1 a1_2 a1_3 l1_4 bt179.1 bt179.2.1 bt179.2.2.1 bt179.2.2.2.1 bt179.2.2.2.2)))) else (hearsaylaw02_TermUnifies.j0 k l2 bt175.1 bt175.2 true a0_0 a0_1 a0_2 a0_3 l0_4 a1_0 a1_1 a1_2 a1_3 l1_4 bt179.1 bt179.2.1 bt179.2.2.1 bt179.2.2.2.1 bt179.2.2.2.2))) else (hearsaylaw02_TermUnifies.j0 k l2 bt175.1 bt175.2 false a0_0 a0_1 a0_2 a0_3 l0_4 a1_0 a1_1 a1_2 a1_3 l1_4 bt179.1 bt179.2.1 bt179.2.2.1 bt179.2.2.2.1 bt179.2.2.2.2)))) = some r := h
 clear h
 replace H := Option.bind_eq_some_iff.mp H
 obtain ⟨⟨t175, t178⟩, A40, H⟩ := H
 replace H : ((term_Apply.f k t175 a0_0 a0_1 a0_2 a0_3 l0_4).bind fun bt179 => (if t178 = true then ((hearsaylaw02_rising.f k t175).bind fun t187 => (if t187 = true then ((term_Apply.f k t175 a1_0 a1_1 a1_2 a1_3 l1_4).bind fun bt188 => ((hearsaylaw02_same.f k bt179.1 bt179.2.1 bt179.2.2.1 bt179.2.2.2.1 bt179.2.2.2.2 bt188.1 bt188.2.1 bt188.2.2.1 bt188.2.2.2.1 bt188.2.2.2.2).bind fun t195 => (if t195 = true then ((term_Apply.f k t175 bt179.1 bt179.2.1 bt179.2.2.1 bt179.2.2.2.1 bt179.2.2.2.2).bind fun bt196 => ((hearsaylaw02_same.f k bt196.1 bt196.2.1 bt196.2.2.1 bt196.2.2.2.1 bt196.2.2.2.2 bt179.1 bt179.2.1 bt179.2.2.1 bt179.2.2.2.1 bt179.2.2.2.2).bind fun t203 => (if t203 = true then ((hearsaylaw02_fits.f k t175 a0_0 a0_1 a0_2).bind fun t204 => (if t204 = true then ((hearsaylaw02_fits.f k t175 a1_0 a1_1 a1_2).bind fun t205 => (hearsaylaw02_TermUnifies.j0 k l2 t175 t178 (!t205) a0_0 a0_1 a0_2 a0_3 l0_4 a1_0 a1_1 a1_2 a1_3 l1_4 bt179.1 bt179.2.1 bt179.2.2.1 bt179.2.2.2.1 bt179.2.2.2.2)) else (hearsaylaw02_TermUnifies.j0 k l2 t175 t178 true a0_0 a0_1 a0_2 a0_3 l0_4 a1_0 a1_1 a1_2 a1_3 l1_4 bt179.1 bt179.2.1 bt179.2.2.1 bt179.2.2.2.1 bt179.2.2.2.2))) else (hearsaylaw02_TermUnifies.j0 k l2 t175 t178 true a0_0 a0_1 a0_2 a0_3 l0_4 a1_0 a1_1 a1_2 a1_3 l1_4 bt179.1 bt179.2.1 bt179.2.2.1 bt179.2.2.2.1 bt179.2.2.2.2)))) else (hearsaylaw02_TermUnifies.j0 k l2 t175 t178 true a0_0 a0_1 a0_2 a0_3 l0_4 a1_0 a1_1 a1_2 a1_3 l1_4 bt179.1 bt179.2.1 bt179.2.2.1 bt179.2.2.2.1 bt179.2.2.2.2)))) else (hearsaylaw02_TermUnifies.j0 k l2 t175 t178 true a0_0 a0_1 a0_2 a0_3 l0_4 a1_0 a1_1 a1_2 a1_3 l1_4 bt179.1 bt179.2.1 bt179.2.2.1 bt179.2.2.2.1 bt179.2.2.2.2))) else (hearsaylaw02_TermUnifies.j0 k l2 t175 t178 false a0_0 a0_1 a0_2 a0_3 l0_4 a1_0 a1_1 a1_2 a1_3 l1_4 bt179.1 bt179.2.1 bt179.2.2.1 bt179.2.2.2.1 bt179.2.2.2.2))) = some r := H
 have A4 := Aside0.mk A40
 clear A40
 replace H := Option.bind_eq_some_iff.mp H
 obtain ⟨⟨t179, t180, t181, t182, t183⟩, A50, H⟩ := H
 replace H : (if t178 = true then ((hearsaylaw02_rising.f k t175).bind fun t187 => (if t187 = true then ((term_Apply.f k t175 a1_0 a1_1 a1_2 a1_3 l1_4).bind fun bt188 => ((hearsaylaw02_same.f k t179 t180 t181 t182 t183 bt188.1 bt188.2.1 bt188.2.2.1 bt188.2.2.2.1 bt188.2.2.2.2).bind fun t195 => (if t195 = true then ((term_Apply.f k t175 t179 t180 t181 t182 t183).bind fun bt196 => ((hearsaylaw02_same.f k bt196.1 bt196.2.1 bt196.2.2.1 bt196.2.2.2.1 bt196.2.2.2.2 t179 t180 t181 t182 t183).bind fun t203 => (if t203 = true then ((hearsaylaw02_fits.f k t175 a0_0 a0_1 a0_2).bind fun t204 => (if t204 = true then ((hearsaylaw02_fits.f k t175 a1_0 a1_1 a1_2).bind fun t205 => (hearsaylaw02_TermUnifies.j0 k l2 t175 t178 (!t205) a0_0 a0_1 a0_2 a0_3 l0_4 a1_0 a1_1 a1_2 a1_3 l1_4 t179 t180 t181 t182 t183)) else (hearsaylaw02_TermUnifies.j0 k l2 t175 t178 true a0_0 a0_1 a0_2 a0_3 l0_4 a1_0 a1_1 a1_2 a1_3 l1_4 t179 t180 t181 t182 t183))) else (hearsaylaw02_TermUnifies.j0 k l2 t175 t178 true a0_0 a0_1 a0_2 a0_3 l0_4 a1_0 a1_1 a1_2 a1_3 l1_4 t179 t180 t181 t182 t183)))) else (hearsaylaw02_TermUnifies.j0 k l2 t175 t178 true a0_0 a0_1 a0_2 a0_3 l0_4 a1_0 a1_1 a1_2 a1_3 l1_4 t179 t180 t181 t182 t183)))) else (hearsaylaw02_TermUnifies.j0 k l2 t175 t178 true a0_0 a0_1 a0_2 a0_3 l0_4 a1_0 a1_1 a1_2 a1_3 l1_4 t179 t180 t181 t182 t183))) else (hearsaylaw02_TermUnifies.j0 k l2 t175 t178 false a0_0 a0_1 a0_2 a0_3 l0_4 a1_0 a1_1 a1_2 a1_3 l1_4 t179 t180 t181 t182 t183)) = some r := H
 have A5 := Aside0.mk A50
 clear A50
 have HC6 := Aside0.mk H
 clear H
 go_enter Tryd.func9, Tryd.ntmps9
 go_upto_region 3 with (first | ((with_reducible refine gate_dst (N := 3) rfl ?_); (try (refine gate_guard (by rfl) ?_; dsimp only)); refine box_event ?hg (N := 3) ?hd (cs := #[.int .i64 a0_0, .int .i64 a0_1, .string a0_2, .string a0_3, .slice A0_4 l0_4.length c0_4]) (t := 26) ?hr ?_; (case hd => rfl); (case hg => rfl); (case hr => first | (go_simp; done) | (go_simp; rfl)); intro gb173 hg w7 hbox hb; have n0_ := Aside0.mk (below_step (by repeat (first | (with_reducible first | exact HB.out | apply qf | apply qn | apply qe) | exact HB.out)) hb); have n1_ := Aside0.mk (hbox); have n2_ := Aside0.mk ((by rw [hg]; exact (below_size (by repeat (first | (with_reducible first | exact HB.out | apply qf | apply qn | apply qe) | exact HB.out))) : w.heap.size ≤ gb173)); have n3_ := Aside0.mk ((by rw [hg]; exact (below_size (by repeat (first | (with_reducible first | exact HB.out | apply qf | apply qn | apply qe) | exact HB.out))) : w.heap.size ≤ gb173)); clear HB; have HB := n0_; have BK173 := n1_; have GW173 := n2_; have GE173 := n3_; clear n0_ n1_ n2_ n3_; clear hb hbox hg) | ((with_reducible refine gate_dst (N := 4) rfl ?_); (try (refine gate_guard (by rfl) ?_; dsimp only)); refine box_event ?hg (N := 4) ?hd (cs := #[.int .i64 a1_0, .int .i64 a1_1, .string a1_2, .string a1_3, .slice A1_4 l1_4.length c1_4]) (t := 26) ?hr ?_; (case hd => rfl); (case hg => rfl); (case hr => first | (go_simp; done) | (go_simp; rfl)); intro gb174 hg w8 hbox hb; have n0_ := Aside0.mk (qw (g := gb173) (o := .cells #[.int .i64 a0_0, .int .i64 a0_1, .string a0_2, .string a0_3, .slice A0_4 l0_4.length c0_4] 26 (0, 0)) (by (with_reducible repeat (first | refine qa ?_ _ | refine qb ?_ | refine qc ?_ _)); exact BK173.out) hb); have n1_ := Aside0.mk (below_step (by repeat (first | (with_reducible first | exact HB.out | apply qf | apply qn | apply qe | refine qd ?_ GE173.out) | exact HB.out)) hb); have n2_ := Aside0.mk (hbox); have n3_ := Aside0.mk ((by rw [hg]; exact (below_size (by repeat (first | (with_reducible first | exact HB.out | apply qf | apply qn | apply qe | refine qd ?_ GE173.out) | exact HB.out))) : w.heap.size ≤ gb174)); have n4_ := Aside0.mk ((by rw [hg]; exact (below_size (by repeat (first | (with_reducible first | exact HB.out | apply qf | apply qn | apply qe | refine qd ?_ GE173.out) | exact HB.out))) : w.heap.size ≤ gb174)); have n5_ := Aside0.mk ((by rw [hg]; exact Nat.ne_of_lt (blk_lt (g := gb173) (o := .cells #[.int .i64 a0_0, .int .i64 a0_1, .string a0_2, .string a0_3, .slice A0_4 l0_4.length c0_4] 26 (0, 0)) (by (with_reducible repeat (first | refine qa ?_ _ | refine qb ?_ | refine qc ?_ _)); exact BK173.out)) : gb173 ≠ gb174)); have n6_ := Aside0.mk ((by rw [hg]; exact Nat.ne_of_gt (blk_lt (g := gb173) (o := .cells #[.int .i64 a0_0, .int .i64 a0_1, .string a0_2, .string a0_3, .slice A0_4 l0_4.length c0_4] 26 (0, 0)) (by (with_reducible repeat (first | refine qa ?_ _ | refine qb ?_ | refine qc ?_ _)); exact BK173.out)) : gb174 ≠ gb173)); clear BK173; clear HB; have BK173 := n0_; have HB := n1_; have BK174 := n2_; have GW174 := n3_; have GE174 := n4_; have NB173_174 := n5_; have NB174_173 := n6_; clear n0_ n1_ n2_ n3_ n4_ n5_ n6_; clear hb hbox hg; have hnb9 := NB173_174.out; have hnc9 := NB174_173.out; have hcz10_0 : w8.cell? ⟨gb173, 0, none⟩ = some (.int .i64 a0_0) := (qh BK173.out 0).trans rfl; have hcz10_1 : w8.cell? ⟨gb173, 1, none⟩ = some (.int .i64 a0_1) := (qh BK173.out 1).trans rfl; have hcz10_2 : w8.cell? ⟨gb173, 2, none⟩ = some (.string a0_2) := (qh BK173.out 2).trans rfl; have hcz10_3 : w8.cell? ⟨gb173, 3, none⟩ = some (.string a0_3) := (qh BK173.out 3).trans rfl; have hcz10_4 : w8.cell? ⟨gb173, 4, none⟩ = some (.slice A0_4 l0_4.length c0_4) := (qh BK173.out 4).trans rfl; have hfz10_0 := qg BK173.out 0; have hfz10_1 := qg BK173.out 1; have hfz10_2 := qg BK173.out 2; have hfz10_3 := qg BK173.out 3; have hfz10_4 := qg BK173.out 4; have hcz11_0 : w8.cell? ⟨gb174, 0, none⟩ = some (.int .i64 a1_0) := (qh BK174.out 0).trans rfl; have hcz11_1 : w8.cell? ⟨gb174, 1, none⟩ = some (.int .i64 a1_1) := (qh BK174.out 1).trans rfl; have hcz11_2 : w8.cell? ⟨gb174, 2, none⟩ = some (.string a1_2) := (qh BK174.out 2).trans rfl; have hcz11_3 : w8.cell? ⟨gb174, 3, none⟩ = some (.string a1_3) := (qh BK174.out 3).trans rfl; have hcz11_4 : w8.cell? ⟨gb174, 4, none⟩ = some (.slice A1_4 l1_4.length c1_4) := (qh BK174.out 4).trans rfl; have hfz11_0 := qg BK174.out 0; have hfz11_1 := qg BK174.out 1; have hfz11_2 := qg BK174.out 2; have hfz11_3 := qg BK174.out 3; have hfz11_4 := qg BK174.out 4) | ((with_reducible refine gate_callee (f := 29) rfl ?_); refine goesL_ (some 16) rfl rfl Tryd.func29 (by kernel_rfl) rfl #[.agg #[.int .i64 a0_0, .int .i64 a0_1, .string a0_2, .string a0_3, .slice A0_4 l0_4.length c0_4], .agg #[.int .i64 a1_0, .int .i64 a1_1, .string a1_2, .string a1_3, .slice A1_4 l1_4.length c1_4]] rfl (by (try simp only [List.map_toArray, List.map_cons, List.map_nil]); first | done | rfl | (simp only [List.length_drop, List.length_take]; rfl)) ?_; (with_reducible refine (term_Unify.calls a0_0 a0_1 a0_2 a0_3 _ _ l0_4 a1_0 a1_1 a1_2 a1_3 _ _ l1_4 t175 t178 _ ?side1 ?side2 ?side3 ?side4 A4.out).mono ?_); (case side1 => repeat (first | exact (Kd.C_below HR0_4.out HB.out) | (with_reducible refine Kd.C_alloc ?_ _) | (with_reducible refine Kd.C_drewN ?_ _) | (with_reducible refine Kd.C_drew ?_))); (case side2 => exact HC0_4.out); (case side3 => repeat (first | exact (Kd.C_below HR1_4.out HB.out) | (with_reducible refine Kd.C_alloc ?_ _) | (with_reducible refine Kd.C_drewN ?_ _) | (with_reducible refine Kd.C_drew ?_))); (case side4 => exact HC1_4.out); rintro e w12 ⟨v176, rfl, ho0, hb⟩; refine ⟨_, rfl, ?_⟩; have n0_ := Aside0.mk (Kd.R_lower ho0 (below_size (by repeat (first | (with_reducible first | exact HB.out | apply qf | apply qn | apply qe | refine qd ?_ GE173.out | refine qd ?_ GE174.out) | exact HB.out)))); have n1_ := Aside0.mk (qw (g := gb173) (o := .cells #[.int .i64 a0_0, .int .i64 a0_1, .string a0_2, .string a0_3, .slice A0_4 l0_4.length c0_4] 26 (0, 0)) (by (with_reducible repeat (first | refine qa ?_ _ | refine qb ?_ | refine qc ?_ _)); exact BK173.out) hb); have n2_ := Aside0.mk (qw (g := gb174) (o := .cells #[.int .i64 a1_0, .int .i64 a1_1, .string a1_2, .string a1_3, .slice A1_4 l1_4.length c1_4] 26 (0, 0)) (by (with_reducible repeat (first | refine qa ?_ _ | refine qb ?_ | refine qc ?_ _)); exact BK174.out) hb); have n3_ := Aside0.mk (below_step (by repeat (first | (with_reducible first | exact HB.out | apply qf | apply qn | apply qe | refine qd ?_ GE173.out | refine qd ?_ GE174.out) | exact HB.out)) hb); clear BK173; clear BK174; clear HB; have HO177 := n0_; have BK173 := n1_; have BK174 := n2_; have HB := n3_; clear n0_ n1_ n2_ n3_; (try clear hb); (try clear hb2); (try clear hk); (try clear hi); (try clear ho0); have hcz13_0 : w12.cell? ⟨gb173, 0, none⟩ = some (.int .i64 a0_0) := (qh BK173.out 0).trans rfl; have hcz13_1 : w12.cell? ⟨gb173, 1, none⟩ = some (.int .i64 a0_1) := (qh BK173.out 1).trans rfl; have hcz13_2 : w12.cell? ⟨gb173, 2, none⟩ = some (.string a0_2) := (qh BK173.out 2).trans rfl; have hcz13_3 : w12.cell? ⟨gb173, 3, none⟩ = some (.string a0_3) := (qh BK173.out 3).trans rfl; have hcz13_4 : w12.cell? ⟨gb173, 4, none⟩ = some (.slice A0_4 l0_4.length c0_4) := (qh BK173.out 4).trans rfl; have hfz13_0 := qg BK173.out 0; have hfz13_1 := qg BK173.out 1; have hfz13_2 := qg BK173.out 2; have hfz13_3 := qg BK173.out 3; have hfz13_4 := qg BK173.out 4; obtain ⟨Ao14, co14, eo14⟩ := Kd.R_slice HO177.out; subst eo14) | ((with_reducible refine gate_callee (f := 23) rfl ?_); refine goesL_ (some 21) rfl rfl Tryd.func23 (by kernel_rfl) rfl #[.slice Ao14 t175.length co14, .agg #[.int .i64 a0_0, .int .i64 a0_1, .string a0_2, .string a0_3, .slice A0_4 l0_4.length c0_4]] rfl (by (try simp only [List.map_toArray, List.map_cons, List.map_nil]); first | done | rfl | (simp only [List.length_drop, List.length_take]; rfl)) ?_; (with_reducible refine (term_Apply.calls k _ _ t175 a0_0 a0_1 a0_2 a0_3 _ _ l0_4 t179 t180 t181 t182 t183 _ ?side1 ?side2 ?side3 ?side4 ?side5 A5.out).mono ?_); (case side1 => repeat (first | exact (Kd.R_reads' HO177.out).2.2 | (with_reducible refine Kd.C_alloc ?_ _) | (with_reducible refine Kd.C_drewN ?_ _) | (with_reducible refine Kd.C_drew ?_))); (case side2 => exact (Kd.R_reads' HO177.out).2.1); (case side3 => repeat (first | exact (Kd.C_below HR0_4.out HB.out) | (with_reducible refine Kd.C_alloc ?_ _) | (with_reducible refine Kd.C_drewN ?_ _) | (with_reducible refine Kd.C_drew ?_))); (case side4 => exact HC0_4.out); (case side5 => exact Laid2.up HLD2.out (by repeat (first | (with_reducible first | exact HB.out | apply qf | apply qn | apply qe | refine qd ?_ GE173.out | refine qd ?_ GE174.out) | exact HB.out))); rintro e w15 ⟨v184, rfl, ho0, hb⟩; refine ⟨_, rfl, ?_⟩; have n0_ := Aside0.mk (Kd.R_below (by (with_reducible repeat (first | apply qz | apply qx | apply qy)); exact HO177.out) hb); have n1_ := Aside0.mk (Kd.R_lower ho0 (below_size (by repeat (first | (with_reducible first | exact HB.out | apply qf | apply qn | apply qe | refine qd ?_ GE173.out | refine qd ?_ GE174.out) | exact HB.out)))); have n2_ := Aside0.mk (qw (g := gb173) (o := .cells #[.int .i64 a0_0, .int .i64 a0_1, .string a0_2, .string a0_3, .slice A0_4 l0_4.length c0_4] 26 (0, 0)) (by (with_reducible repeat (first | refine qa ?_ _ | refine qb ?_ | refine qc ?_ _)); exact BK173.out) hb); have n3_ := Aside0.mk (qw (g := gb174) (o := .cells #[.int .i64 a1_0, .int .i64 a1_1, .string a1_2, .string a1_3, .slice A1_4 l1_4.length c1_4] 26 (0, 0)) (by (with_reducible repeat (first | refine qa ?_ _ | refine qb ?_ | refine qc ?_ _)); exact BK174.out) hb); have n4_ := Aside0.mk (below_step (by repeat (first | (with_reducible first | exact HB.out | apply qf | apply qn | apply qe | refine qd ?_ GE173.out | refine qd ?_ GE174.out) | exact HB.out)) hb); clear HO177; clear BK173; clear BK174; clear HB; have HO177 := n0_; have HO185 := n1_; have BK173 := n2_; have BK174 := n3_; have HB := n4_; clear n0_ n1_ n2_ n3_ n4_; (try clear hb); (try clear hb2); (try clear hk); (try clear hi); (try clear ho0)) | ((with_reducible refine gate_dst (N := 9) rfl ?_); (try (refine gate_guard (by rfl) ?_; dsimp only)); refine box_event ?hg (N := 9) ?hd (cs := #[.int .i64 0, .int .i64 0, .string (⟨#[]⟩ : ByteArray), .string (⟨#[]⟩ : ByteArray), .slice none 0 0]) (t := 26) ?hr ?_; (case hd => rfl); (case hg => rfl); (case hr => first | (go_simp; done) | (go_simp; rfl)); intro gb186 hg w16 hbox hb; have n0_ := Aside0.mk (Kd.R_below (by (with_reducible repeat (first | apply qz | apply qx | apply qy)); exact HO177.out) hb); have n1_ := Aside0.mk (Kd.R_below (by (with_reducible repeat (first | apply qz | apply qx | apply qy)); exact HO185.out) hb); have n2_ := Aside0.mk (qw (g := gb173) (o := .cells #[.int .i64 a0_0, .int .i64 a0_1, .string a0_2, .string a0_3, .slice A0_4 l0_4.length c0_4] 26 (0, 0)) (by (with_reducible repeat (first | refine qa ?_ _ | refine qb ?_ | refine qc ?_ _)); exact BK173.out) hb); have n3_ := Aside0.mk (qw (g := gb174) (o := .cells #[.int .i64 a1_0, .int .i64 a1_1, .string a1_2, .string a1_3, .slice A1_4 l1_4.length c1_4] 26 (0, 0)) (by (with_reducible repeat (first | refine qa ?_ _ | refine qb ?_ | refine qc ?_ _)); exact BK174.out) hb); have n4_ := Aside0.mk (below_step (by repeat (first | (with_reducible first | exact HB.out | apply qf | apply qn | apply qe | refine qd ?_ GE173.out | refine qd ?_ GE174.out) | exact HB.out)) hb); have n5_ := Aside0.mk (hbox); have n6_ := Aside0.mk ((by rw [hg]; exact (below_size (by repeat (first | (with_reducible first | exact HB.out | apply qf | apply qn | apply qe | refine qd ?_ GE173.out | refine qd ?_ GE174.out) | exact HB.out))) : w.heap.size ≤ gb186)); have n7_ := Aside0.mk ((by rw [hg]; exact (below_size (by repeat (first | (with_reducible first | exact HB.out | apply qf | apply qn | apply qe | refine qd ?_ GE173.out | refine qd ?_ GE174.out) | exact HB.out))) : w.heap.size ≤ gb186)); have n8_ := Aside0.mk ((by rw [hg]; exact Nat.ne_of_lt (blk_lt (g := gb173) (o := .cells #[.int .i64 a0_0, .int .i64 a0_1, .string a0_2, .string a0_3, .slice A0_4 l0_4.length c0_4] 26 (0, 0)) (by (with_reducible repeat (first | refine qa ?_ _ | refine qb ?_ | refine qc ?_ _)); exact BK173.out)) : gb173 ≠ gb186)); have n9_ := Aside0.mk ((by rw [hg]; exact Nat.ne_of_gt (blk_lt (g := gb173) (o := .cells #[.int .i64 a0_0, .int .i64 a0_1, .string a0_2, .string a0_3, .slice A0_4 l0_4.length c0_4] 26 (0, 0)) (by (with_reducible repeat (first | refine qa ?_ _ | refine qb ?_ | refine qc ?_ _)); exact BK173.out)) : gb186 ≠ gb173)); have n10_ := Aside0.mk ((by rw [hg]; exact Nat.ne_of_lt (blk_lt (g := gb174) (o := .cells #[.int .i64 a1_0, .int .i64 a1_1, .string a1_2, .string a1_3, .slice A1_4 l1_4.length c1_4] 26 (0, 0)) (by (with_reducible repeat (first | refine qa ?_ _ | refine qb ?_ | refine qc ?_ _)); exact BK174.out)) : gb174 ≠ gb186)); have n11_ := Aside0.mk ((by rw [hg]; exact Nat.ne_of_gt (blk_lt (g := gb174) (o := .cells #[.int .i64 a1_0, .int .i64 a1_1, .string a1_2, .string a1_3, .slice A1_4 l1_4.length c1_4] 26 (0, 0)) (by (with_reducible repeat (first | refine qa ?_ _ | refine qb ?_ | refine qc ?_ _)); exact BK174.out)) : gb186 ≠ gb174)); clear HO177; clear HO185; clear BK173; clear BK174; clear HB; have HO177 := n0_; have HO185 := n1_; have BK173 := n2_; have BK174 := n3_; have HB := n4_; have BK186 := n5_; have GW186 := n6_; have GE186 := n7_; have NB173_186 := n8_; have NB186_173 := n9_; have NB174_186 := n10_; have NB186_174 := n11_; clear n0_ n1_ n2_ n3_ n4_ n5_ n6_ n7_ n8_ n9_ n10_ n11_; clear hb hbox hg; have hnb17 := NB186_173.out; have hnc17 := NB173_186.out; have hnb18 := NB186_174.out; have hnc18 := NB174_186.out; have hcz19_0 : w16.cell? ⟨gb186, 0, none⟩ = some (.int .i64 0) := (qh BK186.out 0).trans rfl; have hcz19_1 : w16.cell? ⟨gb186, 1, none⟩ = some (.int .i64 0) := (qh BK186.out 1).trans rfl; have hcz19_2 : w16.cell? ⟨gb186, 2, none⟩ = some (.string (⟨#[]⟩ : ByteArray)) := (qh BK186.out 2).trans rfl; have hcz19_3 : w16.cell? ⟨gb186, 3, none⟩ = some (.string (⟨#[]⟩ : ByteArray)) := (qh BK186.out 3).trans rfl; have hcz19_4 : w16.cell? ⟨gb186, 4, none⟩ = some (.slice none 0 0) := (qh BK186.out 4).trans rfl; have hfz19_0 := qg BK186.out 0; have hfz19_1 := qg BK186.out 1; have hfz19_2 := qg BK186.out 2; have hfz19_3 := qg BK186.out 3; have hfz19_4 := qg BK186.out 4; obtain ⟨Ao20, co20, eo20⟩ := Kd.R_slice HO185.out; subst eo20))
 (try simp only [Act.put, List.setIfInBounds_toArray, List.set_cons_zero, List.set_cons_succ])
 go_cut [57] (fun v57 wc => ∃ (kq : Nat) (x57_5 : Bool), v57 = .bool x57_5 ∧ Aside0 (hearsaylaw02_TermUnifies.j0 kq l2 t175 t178 x57_5 a0_0 a0_1 a0_2 a0_3 l0_4 a1_0 a1_1 a1_2 a1_3 l1_4 t179 t180 t181 t182 t183 = some r) ∧ Aside0 (kq ≤ k) ∧ Aside0 (Kd.R k44 44 wc w.heap.size (fun _ => True) (.slice Ao14 t175.length co14) t175) ∧ Aside0 (Kd.R k23 23 wc w.heap.size (fun _ => True) (.slice Ao20 t183.length co20) t183) ∧ Aside0 (wc.heap[gb173]? = some (.cells #[.int .i64 a0_0, .int .i64 a0_1, .string a0_2, .string a0_3, (.slice A0_4 l0_4.length c0_4)] 26 (0, 0))) ∧ Aside0 (wc.heap[gb174]? = some (.cells #[.int .i64 a1_0, .int .i64 a1_1, .string a1_2, .string a1_3, (.slice A1_4 l1_4.length c1_4)] 26 (0, 0))) ∧ Aside0 (wc.heap[gb186]? = some (.cells #[.int .i64 t179, .int .i64 t180, .string t181, .string t182, (.slice Ao20 t183.length co20)] 26 (0, 0))) ∧ Aside0 (Below w.heap.size w wc))
 case first =>
  have H := HC6.out
  clear HC6
  by_cases c21 : t178 = true
  rotate_left
  ·
   replace c21 := Bool.eq_false_iff.mpr c21
   subst c21
   have H1 : (hearsaylaw02_TermUnifies.j0 k l2 t175 false false a0_0 a0_1 a0_2 a0_3 l0_4 a1_0 a1_1 a1_2 a1_3 l1_4 t179 t180 t181 t182 t183) = some r := by rw [if_neg (show ¬ (false = true) by decide)] at H; exact H
   clear H
   have H := H1
   clear H1
   have H' := Aside0.mk H
   clear H
   try go_wp2
   have n0_ : Aside0 (Kd.R k44 44 (((((w16.setCell ⟨gb186, 0, none⟩ (.int .i64 t179)).setCell ⟨gb186, 1, none⟩ (.int .i64 t180)).setCell ⟨gb186, 2, none⟩ (.string t181)).setCell ⟨gb186, 3, none⟩ (.string t182)).setCell ⟨gb186, 4, none⟩ (.slice Ao20 t183.length co20)) w.heap.size (fun _ => True) (.slice Ao14 t175.length co14) t175) := ⟨by (with_reducible repeat (first | apply qz | apply qx | apply qy)); exact Kd.R_mono (Kd.R_far (p := ⟨gb186, 4, none⟩) (Kd.R_far (p := ⟨gb186, 3, none⟩) (Kd.R_far (p := ⟨gb186, 2, none⟩) (Kd.R_far (p := ⟨gb186, 1, none⟩) (Kd.R_far (p := ⟨gb186, 0, none⟩) (Kd.R_types HO177.out BK186.out (by decide)) (fun _ hk => hk.2) (.int .i64 t179)) (fun _ hk => hk.2) (.int .i64 t180)) (fun _ hk => hk.2) (.string t181)) (fun _ hk => hk.2) (.string t182)) (fun _ hk => hk.2) (.slice Ao20 t183.length co20)) (fun _ hk => trivial)⟩
   have n1_ : Aside0 (Kd.R k23 23 (((((w16.setCell ⟨gb186, 0, none⟩ (.int .i64 t179)).setCell ⟨gb186, 1, none⟩ (.int .i64 t180)).setCell ⟨gb186, 2, none⟩ (.string t181)).setCell ⟨gb186, 3, none⟩ (.string t182)).setCell ⟨gb186, 4, none⟩ (.slice Ao20 t183.length co20)) w.heap.size (fun _ => True) (.slice Ao20 t183.length co20) t183) := ⟨by (with_reducible repeat (first | apply qz | apply qx | apply qy)); exact Kd.R_mono (Kd.R_far (p := ⟨gb186, 4, none⟩) (Kd.R_far (p := ⟨gb186, 3, none⟩) (Kd.R_far (p := ⟨gb186, 2, none⟩) (Kd.R_far (p := ⟨gb186, 1, none⟩) (Kd.R_far (p := ⟨gb186, 0, none⟩) (Kd.R_types HO185.out BK186.out (by decide)) (fun _ hk => hk.2) (.int .i64 t179)) (fun _ hk => hk.2) (.int .i64 t180)) (fun _ hk => hk.2) (.string t181)) (fun _ hk => hk.2) (.string t182)) (fun _ hk => hk.2) (.slice Ao20 t183.length co20)) (fun _ hk => trivial)⟩
   have n2_ : Aside0 ((((((w16.setCell ⟨gb186, 0, none⟩ (.int .i64 t179)).setCell ⟨gb186, 1, none⟩ (.int .i64 t180)).setCell ⟨gb186, 2, none⟩ (.string t181)).setCell ⟨gb186, 3, none⟩ (.string t182)).setCell ⟨gb186, 4, none⟩ (.slice Ao20 t183.length co20)).heap[gb173]? = some (.cells #[.int .i64 a0_0, .int .i64 a0_1, .string a0_2, .string a0_3, .slice A0_4 l0_4.length c0_4] 26 (0, 0))) := ⟨by (with_reducible repeat (first | refine qa ?_ _ | refine qb ?_ | refine qc ?_ _)); refine blk_far ?_ NB173_186.out _; (with_reducible repeat (first | refine qa ?_ _ | refine qb ?_ | refine qc ?_ _)); refine blk_far ?_ NB173_186.out _; (with_reducible repeat (first | refine qa ?_ _ | refine qb ?_ | refine qc ?_ _)); refine blk_far ?_ NB173_186.out _; (with_reducible repeat (first | refine qa ?_ _ | refine qb ?_ | refine qc ?_ _)); refine blk_far ?_ NB173_186.out _; (with_reducible repeat (first | refine qa ?_ _ | refine qb ?_ | refine qc ?_ _)); refine blk_far ?_ NB173_186.out _; (with_reducible repeat (first | refine qa ?_ _ | refine qb ?_ | refine qc ?_ _)); exact BK173.out⟩
   have n3_ : Aside0 ((((((w16.setCell ⟨gb186, 0, none⟩ (.int .i64 t179)).setCell ⟨gb186, 1, none⟩ (.int .i64 t180)).setCell ⟨gb186, 2, none⟩ (.string t181)).setCell ⟨gb186, 3, none⟩ (.string t182)).setCell ⟨gb186, 4, none⟩ (.slice Ao20 t183.length co20)).heap[gb174]? = some (.cells #[.int .i64 a1_0, .int .i64 a1_1, .string a1_2, .string a1_3, .slice A1_4 l1_4.length c1_4] 26 (0, 0))) := ⟨by (with_reducible repeat (first | refine qa ?_ _ | refine qb ?_ | refine qc ?_ _)); refine blk_far ?_ NB174_186.out _; (with_reducible repeat (first | refine qa ?_ _ | refine qb ?_ | refine qc ?_ _)); refine blk_far ?_ NB174_186.out _; (with_reducible repeat (first | refine qa ?_ _ | refine qb ?_ | refine qc ?_ _)); refine blk_far ?_ NB174_186.out _; (with_reducible repeat (first | refine qa ?_ _ | refine qb ?_ | refine qc ?_ _)); refine blk_far ?_ NB174_186.out _; (with_reducible repeat (first | refine qa ?_ _ | refine qb ?_ | refine qc ?_ _)); refine blk_far ?_ NB174_186.out _; (with_reducible repeat (first | refine qa ?_ _ | refine qb ?_ | refine qc ?_ _)); exact BK174.out⟩
   have n4_ : Aside0 ((((((w16.setCell ⟨gb186, 0, none⟩ (.int .i64 t179)).setCell ⟨gb186, 1, none⟩ (.int .i64 t180)).setCell ⟨gb186, 2, none⟩ (.string t181)).setCell ⟨gb186, 3, none⟩ (.string t182)).setCell ⟨gb186, 4, none⟩ (.slice Ao20 t183.length co20)).heap[gb186]? = some (.cells #[.int .i64 t179, .int .i64 t180, .string t181, .string t182, .slice Ao20 t183.length co20] 26 (0, 0))) := ⟨by (with_reducible repeat (first | refine qa ?_ _ | refine qb ?_ | refine qc ?_ _)); refine blk_put (cs := #[.int .i64 t179, .int .i64 t180, .string t181, .string t182, .slice none 0 0]) ?_ 4 _ rfl; (with_reducible repeat (first | refine qa ?_ _ | refine qb ?_ | refine qc ?_ _)); refine blk_put (cs := #[.int .i64 t179, .int .i64 t180, .string t181, .string (⟨#[]⟩ : ByteArray), .slice none 0 0]) ?_ 3 _ rfl; (with_reducible repeat (first | refine qa ?_ _ | refine qb ?_ | refine qc ?_ _)); refine blk_put (cs := #[.int .i64 t179, .int .i64 t180, .string (⟨#[]⟩ : ByteArray), .string (⟨#[]⟩ : ByteArray), .slice none 0 0]) ?_ 2 _ rfl; (with_reducible repeat (first | refine qa ?_ _ | refine qb ?_ | refine qc ?_ _)); refine blk_put (cs := #[.int .i64 t179, .int .i64 0, .string (⟨#[]⟩ : ByteArray), .string (⟨#[]⟩ : ByteArray), .slice none 0 0]) ?_ 1 _ rfl; (with_reducible repeat (first | refine qa ?_ _ | refine qb ?_ | refine qc ?_ _)); refine blk_put (cs := #[.int .i64 0, .int .i64 0, .string (⟨#[]⟩ : ByteArray), .string (⟨#[]⟩ : ByteArray), .slice none 0 0]) ?_ 0 _ rfl; (with_reducible repeat (first | refine qa ?_ _ | refine qb ?_ | refine qc ?_ _)); exact BK186.out⟩
   have n5_ : Aside0 (Below w.heap.size w (((((w16.setCell ⟨gb186, 0, none⟩ (.int .i64 t179)).setCell ⟨gb186, 1, none⟩ (.int .i64 t180)).setCell ⟨gb186, 2, none⟩ (.string t181)).setCell ⟨gb186, 3, none⟩ (.string t182)).setCell ⟨gb186, 4, none⟩ (.slice Ao20 t183.length co20))) := ⟨by repeat (first | (with_reducible first | exact HB.out | apply qf | apply qn | apply qe | refine qd ?_ GE173.out | refine qd ?_ GE174.out | refine qd ?_ GE186.out) | exact HB.out)⟩
   (try clear HO177)
   (try clear HO185)
   (try clear BK173)
   (try clear BK174)
   (try clear BK186)
   (try clear HB)
   generalize (((((w16.setCell ⟨gb186, 0, none⟩ (.int .i64 t179)).setCell ⟨gb186, 1, none⟩ (.int .i64 t180)).setCell ⟨gb186, 2, none⟩ (.string t181)).setCell ⟨gb186, 3, none⟩ (.string t182)).setCell ⟨gb186, 4, none⟩ (.slice Ao20 t183.length co20)) = w67 at n0_ n1_ n2_ n3_ n4_ n5_ ⊢
   have HO177 := n0_
   have HO185 := n1_
   have BK173 := n2_
   have BK174 := n3_
   have BK186 := n4_
   have HB := n5_
   clear n0_ n1_ n2_ n3_ n4_ n5_
   have n0_ := Aside0.mk (qy HO177.out)
   have n1_ := Aside0.mk (qy HO185.out)
   have n2_ := Aside0.mk (qb BK173.out)
   have n3_ := Aside0.mk (qb BK174.out)
   have n4_ := Aside0.mk (qb BK186.out)
   have n5_ := Aside0.mk (qe HB.out)
   clear HO177
   clear HO185
   clear BK173
   clear BK174
   clear BK186
   clear HB
   have HO177 := n0_
   have HO185 := n1_
   have BK173 := n2_
   have BK174 := n3_
   have BK186 := n4_
   have HB := n5_
   clear n0_ n1_ n2_ n3_ n4_ n5_
   refine start_ (n := 36) (S := fun w' => True) (ds := []) #[false, false, false, false, false, false, false, false, false, false, false, false, false, false, false, false, false, false, false, false, false, false, false, false, false, false, false, false, false, false, false, false, false, false, false, false] (by kernel_rfl) rfl rfl trivial (fun hHeld => ?_); refine with_tabW hearsaylaw02_TermUnifies.tab3 hearsaylaw02_TermUnifies.bits3 (fun HT_ HW_ => ?_)
   generalize w67.drew = w68 at HO177 HO185 BK173 BK174 BK186 HB hHeld ⊢
   refine pure_ (i := 0) (N := some 22) (v := ?_) (a' := ?_) #[true, false, false, false, false, false, false, false, false, false, false, false, false, false, false, false, false, false, false, false, false, false, false, false, false, false, false, false, false, false, false, false, false, false, false, false] rfl rfl (any_of HT_.out (by kernel_rfl)) (fun _ _ _ h => h) (Or.inl ⟨by rfl, ?_⟩) ?_ ?_
   rotate_left
   · intro w'
     go_simp
     with_reducible rfl
   rotate_left
   · simp only [Act.put, List.setIfInBounds_toArray, List.set_cons_zero, List.set_cons_succ, i64_w, i32_w]
     rfl
   refine pure_ (i := 1) (N := some 23) (v := ?_) (a' := ?_) #[true, true, false, false, false, false, false, false, false, false, false, false, false, false, false, false, false, false, false, false, false, false, false, false, false, false, false, false, false, false, false, false, false, false, false, false] rfl rfl (any_of HT_.out (by kernel_rfl)) (fun _ _ _ h => h) (Or.inl ⟨by rfl, ?_⟩) ?_ ?_
   rotate_left
   · intro w'
     go_simp
     with_reducible rfl
   rotate_left
   · simp only [Act.put, List.setIfInBounds_toArray, List.set_cons_zero, List.set_cons_succ, i64_w, i32_w]
     rfl
   refine pure_ (i := 2) (N := some 24) (v := undef) (a' := ?_) #[true, true, true, false, false, false, false, false, false, false, false, false, false, false, false, false, false, false, false, false, false, false, false, false, false, false, false, false, false, false, false, false, false, false, false, false] rfl rfl (any_of HT_.out (by kernel_rfl)) (fun _ _ _ h => h) (Or.inr ⟨by rfl, rfl⟩) ?_ ?_
   rotate_left
   · simp only [Act.put, List.setIfInBounds_toArray, List.set_cons_zero, List.set_cons_succ, i64_w, i32_w]
     rfl
   refine pure_ (i := 3) (N := some 25) (v := undef) (a' := ?_) #[true, true, true, true, false, false, false, false, false, false, false, false, false, false, false, false, false, false, false, false, false, false, false, false, false, false, false, false, false, false, false, false, false, false, false, false] rfl rfl (any_of HT_.out (by kernel_rfl)) (fun _ _ _ h => h) (Or.inr ⟨by rfl, rfl⟩) ?_ ?_
   rotate_left
   · simp only [Act.put, List.setIfInBounds_toArray, List.set_cons_zero, List.set_cons_succ, i64_w, i32_w]
     rfl
   refine pure_ (i := 4) (N := some 26) (v := undef) (a' := ?_) #[true, true, true, true, true, false, false, false, false, false, false, false, false, false, false, false, false, false, false, false, false, false, false, false, false, false, false, false, false, false, false, false, false, false, false, false] rfl rfl (any_of HT_.out (by kernel_rfl)) (fun _ _ _ h => h) (Or.inr ⟨by rfl, rfl⟩) ?_ ?_
   rotate_left
   · simp only [Act.put, List.setIfInBounds_toArray, List.set_cons_zero, List.set_cons_succ, i64_w, i32_w]
     rfl
   refine pure_ (i := 5) (N := some 27) (v := undef) (a' := ?_) #[true, true, true, true, true, true, false, false, false, false, false, false, false, false, false, false, false, false, false, false, false, false, false, false, false, false, false, false, false, false, false, false, false, false, false, false] rfl rfl (any_of HT_.out (by kernel_rfl)) (fun _ _ _ h => h) (Or.inr ⟨by rfl, rfl⟩) ?_ ?_
   rotate_left
   · simp only [Act.put, List.setIfInBounds_toArray, List.set_cons_zero, List.set_cons_succ, i64_w, i32_w]
     rfl
   refine pure_ (i := 6) (N := some 28) (v := undef) (a' := ?_) #[true, true, true, true, true, true, true, false, false, false, false, false, false, false, false, false, false, false, false, false, false, false, false, false, false, false, false, false, false, false, false, false, false, false, false, false] rfl rfl (any_of HT_.out (by kernel_rfl)) (fun _ _ _ h => h) (Or.inr ⟨by rfl, rfl⟩) ?_ ?_
   rotate_left
   · simp only [Act.put, List.setIfInBounds_toArray, List.set_cons_zero, List.set_cons_succ, i64_w, i32_w]
     rfl
   refine pure_ (i := 7) (N := some 29) (v := undef) (a' := ?_) #[true, true, true, true, true, true, true, true, false, false, false, false, false, false, false, false, false, false, false, false, false, false, false, false, false, false, false, false, false, false, false, false, false, false, false, false] rfl rfl (any_of HT_.out (by kernel_rfl)) (fun _ _ _ h => h) (Or.inr ⟨by rfl, rfl⟩) ?_ ?_
   rotate_left
   · simp only [Act.put, List.setIfInBounds_toArray, List.set_cons_zero, List.set_cons_succ, i64_w, i32_w]
     rfl
   refine pure_ (i := 8) (N := some 30) (v := undef) (a' := ?_) #[true, true, true, true, true, true, true, true, true, false, false, false, false, false, false, false, false, false, false, false, false, false, false, false, false, false, false, false, false, false, false, false, false, false, false, false] rfl rfl (any_of HT_.out (by kernel_rfl)) (fun _ _ _ h => h) (Or.inr ⟨by rfl, rfl⟩) ?_ ?_
   rotate_left
   · simp only [Act.put, List.setIfInBounds_toArray, List.set_cons_zero, List.set_cons_succ, i64_w, i32_w]
     rfl
   refine pure_ (i := 9) (N := some 31) (v := undef) (a' := ?_) #[true, true, true, true, true, true, true, true, true, true, false, false, false, false, false, false, false, false, false, false, false, false, false, false, false, false, false, false, false, false, false, false, false, false, false, false] rfl rfl (any_of HT_.out (by kernel_rfl)) (fun _ _ _ h => h) (Or.inr ⟨by rfl, rfl⟩) ?_ ?_
   rotate_left
   · simp only [Act.put, List.setIfInBounds_toArray, List.set_cons_zero, List.set_cons_succ, i64_w, i32_w]
     rfl
   refine pure_ (i := 10) (N := some 32) (v := undef) (a' := ?_) #[true, true, true, true, true, true, true, true, true, true, true, false, false, false, false, false, false, false, false, false, false, false, false, false, false, false, false, false, false, false, false, false, false, false, false, false] rfl rfl (any_of HT_.out (by kernel_rfl)) (fun _ _ _ h => h) (Or.inr ⟨by rfl, rfl⟩) ?_ ?_
   rotate_left
   · simp only [Act.put, List.setIfInBounds_toArray, List.set_cons_zero, List.set_cons_succ, i64_w, i32_w]
     rfl
   refine pure_ (i := 11) (N := some 33) (v := undef) (a' := ?_) #[true, true, true, true, true, true, true, true, true, true, true, true, false, false, false, false, false, false, false, false, false, false, false, false, false, false, false, false, false, false, false, false, false, false, false, false] rfl rfl (any_of HT_.out (by kernel_rfl)) (fun _ _ _ h => h) (Or.inr ⟨by rfl, rfl⟩) ?_ ?_
   rotate_left
   · simp only [Act.put, List.setIfInBounds_toArray, List.set_cons_zero, List.set_cons_succ, i64_w, i32_w]
     rfl
   refine pure_ (i := 12) (N := some 34) (v := undef) (a' := ?_) #[true, true, true, true, true, true, true, true, true, true, true, true, true, false, false, false, false, false, false, false, false, false, false, false, false, false, false, false, false, false, false, false, false, false, false, false] rfl rfl (any_of HT_.out (by kernel_rfl)) (fun _ _ _ h => h) (Or.inr ⟨by rfl, rfl⟩) ?_ ?_
   rotate_left
   · simp only [Act.put, List.setIfInBounds_toArray, List.set_cons_zero, List.set_cons_succ, i64_w, i32_w]
     rfl
   refine pure_ (i := 13) (N := some 35) (v := undef) (a' := ?_) #[true, true, true, true, true, true, true, true, true, true, true, true, true, true, false, false, false, false, false, false, false, false, false, false, false, false, false, false, false, false, false, false, false, false, false, false] rfl rfl (any_of HT_.out (by kernel_rfl)) (fun _ _ _ h => h) (Or.inr ⟨by rfl, rfl⟩) ?_ ?_
   rotate_left
   · simp only [Act.put, List.setIfInBounds_toArray, List.set_cons_zero, List.set_cons_succ, i64_w, i32_w]
     rfl
   refine pure_ (i := 14) (N := some 36) (v := undef) (a' := ?_) #[true, true, true, true, true, true, true, true, true, true, true, true, true, true, true, false, false, false, false, false, false, false, false, false, false, false, false, false, false, false, false, false, false, false, false, false] rfl rfl (any_of HT_.out (by kernel_rfl)) (fun _ _ _ h => h) (Or.inr ⟨by rfl, rfl⟩) ?_ ?_
   rotate_left
   · simp only [Act.put, List.setIfInBounds_toArray, List.set_cons_zero, List.set_cons_succ, i64_w, i32_w]
     rfl
   refine pure_ (i := 15) (N := some 37) (v := undef) (a' := ?_) #[true, true, true, true, true, true, true, true, true, true, true, true, true, true, true, true, false, false, false, false, false, false, false, false, false, false, false, false, false, false, false, false, false, false, false, false] rfl rfl (any_of HT_.out (by kernel_rfl)) (fun _ _ _ h => h) (Or.inr ⟨by rfl, rfl⟩) ?_ ?_
   rotate_left
   · simp only [Act.put, List.setIfInBounds_toArray, List.set_cons_zero, List.set_cons_succ, i64_w, i32_w]
     rfl
   refine pure_ (i := 16) (N := some 38) (v := undef) (a' := ?_) #[true, true, true, true, true, true, true, true, true, true, true, true, true, true, true, true, true, false, false, false, false, false, false, false, false, false, false, false, false, false, false, false, false, false, false, false] rfl rfl (any_of HT_.out (by kernel_rfl)) (fun _ _ _ h => h) (Or.inr ⟨by rfl, rfl⟩) ?_ ?_
   rotate_left
   · simp only [Act.put, List.setIfInBounds_toArray, List.set_cons_zero, List.set_cons_succ, i64_w, i32_w]
     rfl
   refine pure_ (i := 17) (N := some 39) (v := undef) (a' := ?_) #[true, true, true, true, true, true, true, true, true, true, true, true, true, true, true, true, true, true, false, false, false, false, false, false, false, false, false, false, false, false, false, false, false, false, false, false] rfl rfl (any_of HT_.out (by kernel_rfl)) (fun _ _ _ h => h) (Or.inr ⟨by rfl, rfl⟩) ?_ ?_
   rotate_left
   · simp only [Act.put, List.setIfInBounds_toArray, List.set_cons_zero, List.set_cons_succ, i64_w, i32_w]
     rfl
   refine pure_ (i := 18) (N := some 40) (v := undef) (a' := ?_) #[true, true, true, true, true, true, true, true, true, true, true, true, true, true, true, true, true, true, true, false, false, false, false, false, false, false, false, false, false, false, false, false, false, false, false, false] rfl rfl (any_of HT_.out (by kernel_rfl)) (fun _ _ _ h => h) (Or.inr ⟨by rfl, rfl⟩) ?_ ?_
   rotate_left
   · simp only [Act.put, List.setIfInBounds_toArray, List.set_cons_zero, List.set_cons_succ, i64_w, i32_w]
     rfl
   refine pure_ (i := 19) (N := some 41) (v := undef) (a' := ?_) #[true, true, true, true, true, true, true, true, true, true, true, true, true, true, true, true, true, true, true, true, false, false, false, false, false, false, false, false, false, false, false, false, false, false, false, false] rfl rfl (any_of HT_.out (by kernel_rfl)) (fun _ _ _ h => h) (Or.inr ⟨by rfl, rfl⟩) ?_ ?_
   rotate_left
   · simp only [Act.put, List.setIfInBounds_toArray, List.set_cons_zero, List.set_cons_succ, i64_w, i32_w]
     rfl
   refine pure_ (i := 20) (N := some 42) (v := undef) (a' := ?_) #[true, true, true, true, true, true, true, true, true, true, true, true, true, true, true, true, true, true, true, true, true, false, false, false, false, false, false, false, false, false, false, false, false, false, false, false] rfl rfl (any_of HT_.out (by kernel_rfl)) (fun _ _ _ h => h) (Or.inr ⟨by rfl, rfl⟩) ?_ ?_
   rotate_left
   · simp only [Act.put, List.setIfInBounds_toArray, List.set_cons_zero, List.set_cons_succ, i64_w, i32_w]
     rfl
   refine pure_ (i := 21) (N := some 43) (v := undef) (a' := ?_) #[true, true, true, true, true, true, true, true, true, true, true, true, true, true, true, true, true, true, true, true, true, true, false, false, false, false, false, false, false, false, false, false, false, false, false, false] rfl rfl (any_of HT_.out (by kernel_rfl)) (fun _ _ _ h => h) (Or.inr ⟨by rfl, rfl⟩) ?_ ?_
   rotate_left
   · simp only [Act.put, List.setIfInBounds_toArray, List.set_cons_zero, List.set_cons_succ, i64_w, i32_w]
     rfl
   refine pure_ (i := 22) (N := some 44) (v := undef) (a' := ?_) #[true, true, true, true, true, true, true, true, true, true, true, true, true, true, true, true, true, true, true, true, true, true, true, false, false, false, false, false, false, false, false, false, false, false, false, false] rfl rfl (any_of HT_.out (by kernel_rfl)) (fun _ _ _ h => h) (Or.inr ⟨by rfl, rfl⟩) ?_ ?_
   rotate_left
   · simp only [Act.put, List.setIfInBounds_toArray, List.set_cons_zero, List.set_cons_succ, i64_w, i32_w]
     rfl
   refine pure_ (i := 23) (N := some 45) (v := undef) (a' := ?_) #[true, true, true, true, true, true, true, true, true, true, true, true, true, true, true, true, true, true, true, true, true, true, true, true, false, false, false, false, false, false, false, false, false, false, false, false] rfl rfl (any_of HT_.out (by kernel_rfl)) (fun _ _ _ h => h) (Or.inr ⟨by rfl, rfl⟩) ?_ ?_
   rotate_left
   · simp only [Act.put, List.setIfInBounds_toArray, List.set_cons_zero, List.set_cons_succ, i64_w, i32_w]
     rfl
   refine pure_ (i := 24) (N := some 46) (v := undef) (a' := ?_) #[true, true, true, true, true, true, true, true, true, true, true, true, true, true, true, true, true, true, true, true, true, true, true, true, true, false, false, false, false, false, false, false, false, false, false, false] rfl rfl (any_of HT_.out (by kernel_rfl)) (fun _ _ _ h => h) (Or.inr ⟨by rfl, rfl⟩) ?_ ?_
   rotate_left
   · simp only [Act.put, List.setIfInBounds_toArray, List.set_cons_zero, List.set_cons_succ, i64_w, i32_w]
     rfl
   refine pure_ (i := 25) (N := some 47) (v := undef) (a' := ?_) #[true, true, true, true, true, true, true, true, true, true, true, true, true, true, true, true, true, true, true, true, true, true, true, true, true, true, false, false, false, false, false, false, false, false, false, false] rfl rfl (any_of HT_.out (by kernel_rfl)) (fun _ _ _ h => h) (Or.inr ⟨by rfl, rfl⟩) ?_ ?_
   rotate_left
   · simp only [Act.put, List.setIfInBounds_toArray, List.set_cons_zero, List.set_cons_succ, i64_w, i32_w]
     rfl
   refine pure_ (i := 26) (N := some 48) (v := undef) (a' := ?_) #[true, true, true, true, true, true, true, true, true, true, true, true, true, true, true, true, true, true, true, true, true, true, true, true, true, true, true, false, false, false, false, false, false, false, false, false] rfl rfl (any_of HT_.out (by kernel_rfl)) (fun _ _ _ h => h) (Or.inr ⟨by rfl, rfl⟩) ?_ ?_
   rotate_left
   · simp only [Act.put, List.setIfInBounds_toArray, List.set_cons_zero, List.set_cons_succ, i64_w, i32_w]
     rfl
   refine pure_ (i := 27) (N := some 49) (v := undef) (a' := ?_) #[true, true, true, true, true, true, true, true, true, true, true, true, true, true, true, true, true, true, true, true, true, true, true, true, true, true, true, true, false, false, false, false, false, false, false, false] rfl rfl (any_of HT_.out (by kernel_rfl)) (fun _ _ _ h => h) (Or.inr ⟨by rfl, rfl⟩) ?_ ?_
   rotate_left
   · simp only [Act.put, List.setIfInBounds_toArray, List.set_cons_zero, List.set_cons_succ, i64_w, i32_w]
     rfl
   refine pure_ (i := 28) (N := some 50) (v := undef) (a' := ?_) #[true, true, true, true, true, true, true, true, true, true, true, true, true, true, true, true, true, true, true, true, true, true, true, true, true, true, true, true, true, false, false, false, false, false, false, false] rfl rfl (any_of HT_.out (by kernel_rfl)) (fun _ _ _ h => h) (Or.inr ⟨by rfl, rfl⟩) ?_ ?_
   rotate_left
   · simp only [Act.put, List.setIfInBounds_toArray, List.set_cons_zero, List.set_cons_succ, i64_w, i32_w]
     rfl
   refine pure_ (i := 29) (N := some 51) (v := undef) (a' := ?_) #[true, true, true, true, true, true, true, true, true, true, true, true, true, true, true, true, true, true, true, true, true, true, true, true, true, true, true, true, true, true, false, false, false, false, false, false] rfl rfl (any_of HT_.out (by kernel_rfl)) (fun _ _ _ h => h) (Or.inr ⟨by rfl, rfl⟩) ?_ ?_
   rotate_left
   · simp only [Act.put, List.setIfInBounds_toArray, List.set_cons_zero, List.set_cons_succ, i64_w, i32_w]
     rfl
   refine pure_ (i := 30) (N := some 52) (v := undef) (a' := ?_) #[true, true, true, true, true, true, true, true, true, true, true, true, true, true, true, true, true, true, true, true, true, true, true, true, true, true, true, true, true, true, true, false, false, false, false, false] rfl rfl (any_of HT_.out (by kernel_rfl)) (fun _ _ _ h => h) (Or.inr ⟨by rfl, rfl⟩) ?_ ?_
   rotate_left
   · simp only [Act.put, List.setIfInBounds_toArray, List.set_cons_zero, List.set_cons_succ, i64_w, i32_w]
     rfl
   refine pure_ (i := 31) (N := some 53) (v := undef) (a' := ?_) #[true, true, true, true, true, true, true, true, true, true, true, true, true, true, true, true, true, true, true, true, true, true, true, true, true, true, true, true, true, true, true, true, false, false, false, false] rfl rfl (any_of HT_.out (by kernel_rfl)) (fun _ _ _ h => h) (Or.inr ⟨by rfl, rfl⟩) ?_ ?_
   rotate_left
   · simp only [Act.put, List.setIfInBounds_toArray, List.set_cons_zero, List.set_cons_succ, i64_w, i32_w]
     rfl
   refine pure_ (i := 32) (N := some 54) (v := undef) (a' := ?_) #[true, true, true, true, true, true, true, true, true, true, true, true, true, true, true, true, true, true, true, true, true, true, true, true, true, true, true, true, true, true, true, true, true, false, false, false] rfl rfl (any_of HT_.out (by kernel_rfl)) (fun _ _ _ h => h) (Or.inr ⟨by rfl, rfl⟩) ?_ ?_
   rotate_left
   · simp only [Act.put, List.setIfInBounds_toArray, List.set_cons_zero, List.set_cons_succ, i64_w, i32_w]
     rfl
   refine pure_ (i := 33) (N := some 55) (v := undef) (a' := ?_) #[true, true, true, true, true, true, true, true, true, true, true, true, true, true, true, true, true, true, true, true, true, true, true, true, true, true, true, true, true, true, true, true, true, true, false, false] rfl rfl (any_of HT_.out (by kernel_rfl)) (fun _ _ _ h => h) (Or.inr ⟨by rfl, rfl⟩) ?_ ?_
   rotate_left
   · simp only [Act.put, List.setIfInBounds_toArray, List.set_cons_zero, List.set_cons_succ, i64_w, i32_w]
     rfl
   refine pure_ (i := 34) (N := some 56) (v := undef) (a' := ?_) #[true, true, true, true, true, true, true, true, true, true, true, true, true, true, true, true, true, true, true, true, true, true, true, true, true, true, true, true, true, true, true, true, true, true, true, false] rfl rfl (any_of HT_.out (by kernel_rfl)) (fun _ _ _ h => h) (Or.inr ⟨by rfl, rfl⟩) ?_ ?_
   rotate_left
   · simp only [Act.put, List.setIfInBounds_toArray, List.set_cons_zero, List.set_cons_succ, i64_w, i32_w]
     rfl
   refine pure_ (i := 35) (N := some 57) (v := ?_) (a' := ?_) #[true, true, true, true, true, true, true, true, true, true, true, true, true, true, true, true, true, true, true, true, true, true, true, true, true, true, true, true, true, true, true, true, true, true, true, true] rfl rfl (any_of HT_.out (by kernel_rfl)) (fun _ _ _ h => h) (Or.inl ⟨by rfl, ?_⟩) ?_ ?_
   rotate_left
   · intro w'
     go_simp
     with_reducible rfl
   rotate_left
   · simp only [Act.put, List.setIfInBounds_toArray, List.set_cons_zero, List.set_cons_succ, i64_w, i32_w]
     rfl
   refine done_ (done_of HT_.out (by kernel_rfl)) ?_
   try go_wp2
   go_meet
   exact ⟨_, (false), (by first | rfl | (simp; done) | (simp [*]; done)), H', ⟨by first | omega | exact Nat.le_refl _⟩, ⟨by (with_reducible repeat (first | apply qz | apply qx | apply qy)); exact HO177.out⟩, ⟨by (with_reducible repeat (first | apply qz | apply qx | apply qy)); exact HO185.out⟩, ⟨by (with_reducible repeat (first | refine qa ?_ _ | refine qb ?_ | refine qc ?_ _)); exact BK173.out⟩, ⟨by (with_reducible repeat (first | refine qa ?_ _ | refine qb ?_ | refine qc ?_ _)); exact BK174.out⟩, ⟨by (with_reducible repeat (first | refine qa ?_ _ | refine qb ?_ | refine qc ?_ _)); exact BK186.out⟩, ⟨by repeat (first | (with_reducible first | exact HB.out | apply qf | apply qn | apply qe | refine qd ?_ GE173.out | refine qd ?_ GE174.out | refine qd ?_ GE186.out) | exact HB.out)⟩⟩
  subst c21
  have H1 : ((hearsaylaw02_rising.f k t175).bind fun t187 => (if t187 = true then ((term_Apply.f k t175 a1_0 a1_1 a1_2 a1_3 l1_4).bind fun bt188 => ((hearsaylaw02_same.f k t179 t180 t181 t182 t183 bt188.1 bt188.2.1 bt188.2.2.1 bt188.2.2.2.1 bt188.2.2.2.2).bind fun t195 => (if t195 = true then ((term_Apply.f k t175 t179 t180 t181 t182 t183).bind fun bt196 => ((hearsaylaw02_same.f k bt196.1 bt196.2.1 bt196.2.2.1 bt196.2.2.2.1 bt196.2.2.2.2 t179 t180 t181 t182 t183).bind fun t203 => (if t203 = true then ((hearsaylaw02_fits.f k t175 a0_0 a0_1 a0_2).bind fun t204 => (if t204 = true then ((hearsaylaw02_fits.f k t175 a1_0 a1_1 a1_2).bind fun t205 => (hearsaylaw02_TermUnifies.j0 k l2 t175 true (!t205) a0_0 a0_1 a0_2 a0_3 l0_4 a1_0 a1_1 a1_2 a1_3 l1_4 t179 t180 t181 t182 t183)) else (hearsaylaw02_TermUnifies.j0 k l2 t175 true true a0_0 a0_1 a0_2 a0_3 l0_4 a1_0 a1_1 a1_2 a1_3 l1_4 t179 t180 t181 t182 t183))) else (hearsaylaw02_TermUnifies.j0 k l2 t175 true true a0_0 a0_1 a0_2 a0_3 l0_4 a1_0 a1_1 a1_2 a1_3 l1_4 t179 t180 t181 t182 t183)))) else (hearsaylaw02_TermUnifies.j0 k l2 t175 true true a0_0 a0_1 a0_2 a0_3 l0_4 a1_0 a1_1 a1_2 a1_3 l1_4 t179 t180 t181 t182 t183)))) else (hearsaylaw02_TermUnifies.j0 k l2 t175 true true a0_0 a0_1 a0_2 a0_3 l0_4 a1_0 a1_1 a1_2 a1_3 l1_4 t179 t180 t181 t182 t183))) = some r := by rw [if_pos rfl] at H; exact H
  clear H
  have H := H1
  clear H1
  replace H := Option.bind_eq_some_iff.mp H
  obtain ⟨t187, A220, H⟩ := H
  replace H : (if t187 = true then ((term_Apply.f k t175 a1_0 a1_1 a1_2 a1_3 l1_4).bind fun bt188 => ((hearsaylaw02_same.f k t179 t180 t181 t182 t183 bt188.1 bt188.2.1 bt188.2.2.1 bt188.2.2.2.1 bt188.2.2.2.2).bind fun t195 => (if t195 = true then ((term_Apply.f k t175 t179 t180 t181 t182 t183).bind fun bt196 => ((hearsaylaw02_same.f k bt196.1 bt196.2.1 bt196.2.2.1 bt196.2.2.2.1 bt196.2.2.2.2 t179 t180 t181 t182 t183).bind fun t203 => (if t203 = true then ((hearsaylaw02_fits.f k t175 a0_0 a0_1 a0_2).bind fun t204 => (if t204 = true then ((hearsaylaw02_fits.f k t175 a1_0 a1_1 a1_2).bind fun t205 => (hearsaylaw02_TermUnifies.j0 k l2 t175 true (!t205) a0_0 a0_1 a0_2 a0_3 l0_4 a1_0 a1_1 a1_2 a1_3 l1_4 t179 t180 t181 t182 t183)) else (hearsaylaw02_TermUnifies.j0 k l2 t175 true true a0_0 a0_1 a0_2 a0_3 l0_4 a1_0 a1_1 a1_2 a1_3 l1_4 t179 t180 t181 t182 t183))) else (hearsaylaw02_TermUnifies.j0 k l2 t175 true true a0_0 a0_1 a0_2 a0_3 l0_4 a1_0 a1_1 a1_2 a1_3 l1_4 t179 t180 t181 t182 t183)))) else (hearsaylaw02_TermUnifies.j0 k l2 t175 true true a0_0 a0_1 a0_2 a0_3 l0_4 a1_0 a1_1 a1_2 a1_3 l1_4 t179 t180 t181 t182 t183)))) else (hearsaylaw02_TermUnifies.j0 k l2 t175 true true a0_0 a0_1 a0_2 a0_3 l0_4 a1_0 a1_1 a1_2 a1_3 l1_4 t179 t180 t181 t182 t183)) = some r := H
  have A22 := Aside0.mk A220
  clear A220
  by_cases c23 : t187 = true
  rotate_left
  · replace c23 := Bool.eq_false_iff.mpr c23
    subst c23
    have H1 : (hearsaylaw02_TermUnifies.j0 k l2 t175 true true a0_0 a0_1 a0_2 a0_3 l0_4 a1_0 a1_1 a1_2 a1_3 l1_4 t179 t180 t181 t182 t183) = some r := by rw [if_neg (show ¬ (false = true) by decide)] at H; exact H
    exact absurd H1 (by rw [HR1.out]; cases k <;> simp [hearsaylaw02_TermUnifies.j0])
  subst c23
  have H1 : ((term_Apply.f k t175 a1_0 a1_1 a1_2 a1_3 l1_4).bind fun bt188 => ((hearsaylaw02_same.f k t179 t180 t181 t182 t183 bt188.1 bt188.2.1 bt188.2.2.1 bt188.2.2.2.1 bt188.2.2.2.2).bind fun t195 => (if t195 = true then ((term_Apply.f k t175 t179 t180 t181 t182 t183).bind fun bt196 => ((hearsaylaw02_same.f k bt196.1 bt196.2.1 bt196.2.2.1 bt196.2.2.2.1 bt196.2.2.2.2 t179 t180 t181 t182 t183).bind fun t203 => (if t203 = true then ((hearsaylaw02_fits.f k t175 a0_0 a0_1 a0_2).bind fun t204 => (if t204 = true then ((hearsaylaw02_fits.f k t175 a1_0 a1_1 a1_2).bind fun t205 => (hearsaylaw02_TermUnifies.j0 k l2 t175 true (!t205) a0_0 a0_1 a0_2 a0_3 l0_4 a1_0 a1_1 a1_2 a1_3 l1_4 t179 t180 t181 t182 t183)) else (hearsaylaw02_TermUnifies.j0 k l2 t175 true true a0_0 a0_1 a0_2 a0_3 l0_4 a1_0 a1_1 a1_2 a1_3 l1_4 t179 t180 t181 t182 t183))) else (hearsaylaw02_TermUnifies.j0 k l2 t175 true true a0_0 a0_1 a0_2 a0_3 l0_4 a1_0 a1_1 a1_2 a1_3 l1_4 t179 t180 t181 t182 t183)))) else (hearsaylaw02_TermUnifies.j0 k l2 t175 true true a0_0 a0_1 a0_2 a0_3 l0_4 a1_0 a1_1 a1_2 a1_3 l1_4 t179 t180 t181 t182 t183)))) = some r := by rw [if_pos rfl] at H; exact H
  clear H
  have H := H1
  clear H1
  replace H := Option.bind_eq_some_iff.mp H
  obtain ⟨⟨t188, t189, t190, t191, t192⟩, A240, H⟩ := H
  replace H : ((hearsaylaw02_same.f k t179 t180 t181 t182 t183 t188 t189 t190 t191 t192).bind fun t195 => (if t195 = true then ((term_Apply.f k t175 t179 t180 t181 t182 t183).bind fun bt196 => ((hearsaylaw02_same.f k bt196.1 bt196.2.1 bt196.2.2.1 bt196.2.2.2.1 bt196.2.2.2.2 t179 t180 t181 t182 t183).bind fun t203 => (if t203 = true then ((hearsaylaw02_fits.f k t175 a0_0 a0_1 a0_2).bind fun t204 => (if t204 = true then ((hearsaylaw02_fits.f k t175 a1_0 a1_1 a1_2).bind fun t205 => (hearsaylaw02_TermUnifies.j0 k l2 t175 true (!t205) a0_0 a0_1 a0_2 a0_3 l0_4 a1_0 a1_1 a1_2 a1_3 l1_4 t179 t180 t181 t182 t183)) else (hearsaylaw02_TermUnifies.j0 k l2 t175 true true a0_0 a0_1 a0_2 a0_3 l0_4 a1_0 a1_1 a1_2 a1_3 l1_4 t179 t180 t181 t182 t183))) else (hearsaylaw02_TermUnifies.j0 k l2 t175 true true a0_0 a0_1 a0_2 a0_3 l0_4 a1_0 a1_1 a1_2 a1_3 l1_4 t179 t180 t181 t182 t183)))) else (hearsaylaw02_TermUnifies.j0 k l2 t175 true true a0_0 a0_1 a0_2 a0_3 l0_4 a1_0 a1_1 a1_2 a1_3 l1_4 t179 t180 t181 t182 t183))) = some r := H
  have A24 := Aside0.mk A240
  clear A240
  replace H := Option.bind_eq_some_iff.mp H
  obtain ⟨t195, A250, H⟩ := H
  replace H : (if t195 = true then ((term_Apply.f k t175 t179 t180 t181 t182 t183).bind fun bt196 => ((hearsaylaw02_same.f k bt196.1 bt196.2.1 bt196.2.2.1 bt196.2.2.2.1 bt196.2.2.2.2 t179 t180 t181 t182 t183).bind fun t203 => (if t203 = true then ((hearsaylaw02_fits.f k t175 a0_0 a0_1 a0_2).bind fun t204 => (if t204 = true then ((hearsaylaw02_fits.f k t175 a1_0 a1_1 a1_2).bind fun t205 => (hearsaylaw02_TermUnifies.j0 k l2 t175 true (!t205) a0_0 a0_1 a0_2 a0_3 l0_4 a1_0 a1_1 a1_2 a1_3 l1_4 t179 t180 t181 t182 t183)) else (hearsaylaw02_TermUnifies.j0 k l2 t175 true true a0_0 a0_1 a0_2 a0_3 l0_4 a1_0 a1_1 a1_2 a1_3 l1_4 t179 t180 t181 t182 t183))) else (hearsaylaw02_TermUnifies.j0 k l2 t175 true true a0_0 a0_1 a0_2 a0_3 l0_4 a1_0 a1_1 a1_2 a1_3 l1_4 t179 t180 t181 t182 t183)))) else (hearsaylaw02_TermUnifies.j0 k l2 t175 true true a0_0 a0_1 a0_2 a0_3 l0_4 a1_0 a1_1 a1_2 a1_3 l1_4 t179 t180 t181 t182 t183)) = some r := H
  have A25 := Aside0.mk A250
  clear A250
  by_cases c26 : t195 = true
  rotate_left
  · replace c26 := Bool.eq_false_iff.mpr c26
    subst c26
    have H1 : (hearsaylaw02_TermUnifies.j0 k l2 t175 true true a0_0 a0_1 a0_2 a0_3 l0_4 a1_0 a1_1 a1_2 a1_3 l1_4 t179 t180 t181 t182 t183) = some r := by rw [if_neg (show ¬ (false = true) by decide)] at H; exact H
    exact absurd H1 (by rw [HR1.out]; cases k <;> simp [hearsaylaw02_TermUnifies.j0])
  subst c26
  have H1 : ((term_Apply.f k t175 t179 t180 t181 t182 t183).bind fun bt196 => ((hearsaylaw02_same.f k bt196.1 bt196.2.1 bt196.2.2.1 bt196.2.2.2.1 bt196.2.2.2.2 t179 t180 t181 t182 t183).bind fun t203 => (if t203 = true then ((hearsaylaw02_fits.f k t175 a0_0 a0_1 a0_2).bind fun t204 => (if t204 = true then ((hearsaylaw02_fits.f k t175 a1_0 a1_1 a1_2).bind fun t205 => (hearsaylaw02_TermUnifies.j0 k l2 t175 true (!t205) a0_0 a0_1 a0_2 a0_3 l0_4 a1_0 a1_1 a1_2 a1_3 l1_4 t179 t180 t181 t182 t183)) else (hearsaylaw02_TermUnifies.j0 k l2 t175 true true a0_0 a0_1 a0_2 a0_3 l0_4 a1_0 a1_1 a1_2 a1_3 l1_4 t179 t180 t181 t182 t183))) else (hearsaylaw02_TermUnifies.j0 k l2 t175 true true a0_0 a0_1 a0_2 a0_3 l0_4 a1_0 a1_1 a1_2 a1_3 l1_4 t179 t180 t181 t182 t183)))) = some r := by rw [if_pos rfl] at H; exact H
  clear H
  have H := H1
  clear H1
  replace H := Option.bind_eq_some_iff.mp H
  obtain ⟨⟨t196, t197, t198, t199, t200⟩, A270, H⟩ := H
  replace H : ((hearsaylaw02_same.f k t196 t197 t198 t199 t200 t179 t180 t181 t182 t183).bind fun t203 => (if t203 = true then ((hearsaylaw02_fits.f k t175 a0_0 a0_1 a0_2).bind fun t204 => (if t204 = true then ((hearsaylaw02_fits.f k t175 a1_0 a1_1 a1_2).bind fun t205 => (hearsaylaw02_TermUnifies.j0 k l2 t175 true (!t205) a0_0 a0_1 a0_2 a0_3 l0_4 a1_0 a1_1 a1_2 a1_3 l1_4 t179 t180 t181 t182 t183)) else (hearsaylaw02_TermUnifies.j0 k l2 t175 true true a0_0 a0_1 a0_2 a0_3 l0_4 a1_0 a1_1 a1_2 a1_3 l1_4 t179 t180 t181 t182 t183))) else (hearsaylaw02_TermUnifies.j0 k l2 t175 true true a0_0 a0_1 a0_2 a0_3 l0_4 a1_0 a1_1 a1_2 a1_3 l1_4 t179 t180 t181 t182 t183))) = some r := H
  have A27 := Aside0.mk A270
  clear A270
  replace H := Option.bind_eq_some_iff.mp H
  obtain ⟨t203, A280, H⟩ := H
  replace H : (if t203 = true then ((hearsaylaw02_fits.f k t175 a0_0 a0_1 a0_2).bind fun t204 => (if t204 = true then ((hearsaylaw02_fits.f k t175 a1_0 a1_1 a1_2).bind fun t205 => (hearsaylaw02_TermUnifies.j0 k l2 t175 true (!t205) a0_0 a0_1 a0_2 a0_3 l0_4 a1_0 a1_1 a1_2 a1_3 l1_4 t179 t180 t181 t182 t183)) else (hearsaylaw02_TermUnifies.j0 k l2 t175 true true a0_0 a0_1 a0_2 a0_3 l0_4 a1_0 a1_1 a1_2 a1_3 l1_4 t179 t180 t181 t182 t183))) else (hearsaylaw02_TermUnifies.j0 k l2 t175 true true a0_0 a0_1 a0_2 a0_3 l0_4 a1_0 a1_1 a1_2 a1_3 l1_4 t179 t180 t181 t182 t183)) = some r := H
  have A28 := Aside0.mk A280
  clear A280
  by_cases c29 : t203 = true
  rotate_left
  · replace c29 := Bool.eq_false_iff.mpr c29
    subst c29
    have H1 : (hearsaylaw02_TermUnifies.j0 k l2 t175 true true a0_0 a0_1 a0_2 a0_3 l0_4 a1_0 a1_1 a1_2 a1_3 l1_4 t179 t180 t181 t182 t183) = some r := by rw [if_neg (show ¬ (false = true) by decide)] at H; exact H
    exact absurd H1 (by rw [HR1.out]; cases k <;> simp [hearsaylaw02_TermUnifies.j0])
  subst c29
  have H1 : ((hearsaylaw02_fits.f k t175 a0_0 a0_1 a0_2).bind fun t204 => (if t204 = true then ((hearsaylaw02_fits.f k t175 a1_0 a1_1 a1_2).bind fun t205 => (hearsaylaw02_TermUnifies.j0 k l2 t175 true (!t205) a0_0 a0_1 a0_2 a0_3 l0_4 a1_0 a1_1 a1_2 a1_3 l1_4 t179 t180 t181 t182 t183)) else (hearsaylaw02_TermUnifies.j0 k l2 t175 true true a0_0 a0_1 a0_2 a0_3 l0_4 a1_0 a1_1 a1_2 a1_3 l1_4 t179 t180 t181 t182 t183))) = some r := by rw [if_pos rfl] at H; exact H
  clear H
  have H := H1
  clear H1
  replace H := Option.bind_eq_some_iff.mp H
  obtain ⟨t204, A300, H⟩ := H
  replace H : (if t204 = true then ((hearsaylaw02_fits.f k t175 a1_0 a1_1 a1_2).bind fun t205 => (hearsaylaw02_TermUnifies.j0 k l2 t175 true (!t205) a0_0 a0_1 a0_2 a0_3 l0_4 a1_0 a1_1 a1_2 a1_3 l1_4 t179 t180 t181 t182 t183)) else (hearsaylaw02_TermUnifies.j0 k l2 t175 true true a0_0 a0_1 a0_2 a0_3 l0_4 a1_0 a1_1 a1_2 a1_3 l1_4 t179 t180 t181 t182 t183)) = some r := H
  have A30 := Aside0.mk A300
  clear A300
  by_cases c31 : t204 = true
  rotate_left
  · replace c31 := Bool.eq_false_iff.mpr c31
    subst c31
    have H1 : (hearsaylaw02_TermUnifies.j0 k l2 t175 true true a0_0 a0_1 a0_2 a0_3 l0_4 a1_0 a1_1 a1_2 a1_3 l1_4 t179 t180 t181 t182 t183) = some r := by rw [if_neg (show ¬ (false = true) by decide)] at H; exact H
    exact absurd H1 (by rw [HR1.out]; cases k <;> simp [hearsaylaw02_TermUnifies.j0])
  subst c31
  have H1 : ((hearsaylaw02_fits.f k t175 a1_0 a1_1 a1_2).bind fun t205 => (hearsaylaw02_TermUnifies.j0 k l2 t175 true (!t205) a0_0 a0_1 a0_2 a0_3 l0_4 a1_0 a1_1 a1_2 a1_3 l1_4 t179 t180 t181 t182 t183)) = some r := by rw [if_pos rfl] at H; exact H
  clear H
  have H := H1
  clear H1
  replace H := Option.bind_eq_some_iff.mp H
  obtain ⟨t205, A320, H⟩ := H
  replace H : (hearsaylaw02_TermUnifies.j0 k l2 t175 true (!t205) a0_0 a0_1 a0_2 a0_3 l0_4 a1_0 a1_1 a1_2 a1_3 l1_4 t179 t180 t181 t182 t183) = some r := H
  have A32 := Aside0.mk A320
  clear A320
  have H' := Aside0.mk H
  clear H
  try go_wp2
  have n0_ : Aside0 (Kd.R k44 44 (((((w16.setCell ⟨gb186, 0, none⟩ (.int .i64 t179)).setCell ⟨gb186, 1, none⟩ (.int .i64 t180)).setCell ⟨gb186, 2, none⟩ (.string t181)).setCell ⟨gb186, 3, none⟩ (.string t182)).setCell ⟨gb186, 4, none⟩ (.slice Ao20 t183.length co20)) w.heap.size (fun _ => True) (.slice Ao14 t175.length co14) t175) := ⟨by (with_reducible repeat (first | apply qz | apply qx | apply qy)); exact Kd.R_mono (Kd.R_far (p := ⟨gb186, 4, none⟩) (Kd.R_far (p := ⟨gb186, 3, none⟩) (Kd.R_far (p := ⟨gb186, 2, none⟩) (Kd.R_far (p := ⟨gb186, 1, none⟩) (Kd.R_far (p := ⟨gb186, 0, none⟩) (Kd.R_types HO177.out BK186.out (by decide)) (fun _ hk => hk.2) (.int .i64 t179)) (fun _ hk => hk.2) (.int .i64 t180)) (fun _ hk => hk.2) (.string t181)) (fun _ hk => hk.2) (.string t182)) (fun _ hk => hk.2) (.slice Ao20 t183.length co20)) (fun _ hk => trivial)⟩
  have n1_ : Aside0 (Kd.R k23 23 (((((w16.setCell ⟨gb186, 0, none⟩ (.int .i64 t179)).setCell ⟨gb186, 1, none⟩ (.int .i64 t180)).setCell ⟨gb186, 2, none⟩ (.string t181)).setCell ⟨gb186, 3, none⟩ (.string t182)).setCell ⟨gb186, 4, none⟩ (.slice Ao20 t183.length co20)) w.heap.size (fun _ => True) (.slice Ao20 t183.length co20) t183) := ⟨by (with_reducible repeat (first | apply qz | apply qx | apply qy)); exact Kd.R_mono (Kd.R_far (p := ⟨gb186, 4, none⟩) (Kd.R_far (p := ⟨gb186, 3, none⟩) (Kd.R_far (p := ⟨gb186, 2, none⟩) (Kd.R_far (p := ⟨gb186, 1, none⟩) (Kd.R_far (p := ⟨gb186, 0, none⟩) (Kd.R_types HO185.out BK186.out (by decide)) (fun _ hk => hk.2) (.int .i64 t179)) (fun _ hk => hk.2) (.int .i64 t180)) (fun _ hk => hk.2) (.string t181)) (fun _ hk => hk.2) (.string t182)) (fun _ hk => hk.2) (.slice Ao20 t183.length co20)) (fun _ hk => trivial)⟩
  have n2_ : Aside0 ((((((w16.setCell ⟨gb186, 0, none⟩ (.int .i64 t179)).setCell ⟨gb186, 1, none⟩ (.int .i64 t180)).setCell ⟨gb186, 2, none⟩ (.string t181)).setCell ⟨gb186, 3, none⟩ (.string t182)).setCell ⟨gb186, 4, none⟩ (.slice Ao20 t183.length co20)).heap[gb173]? = some (.cells #[.int .i64 a0_0, .int .i64 a0_1, .string a0_2, .string a0_3, .slice A0_4 l0_4.length c0_4] 26 (0, 0))) := ⟨by (with_reducible repeat (first | refine qa ?_ _ | refine qb ?_ | refine qc ?_ _)); refine blk_far ?_ NB173_186.out _; (with_reducible repeat (first | refine qa ?_ _ | refine qb ?_ | refine qc ?_ _)); refine blk_far ?_ NB173_186.out _; (with_reducible repeat (first | refine qa ?_ _ | refine qb ?_ | refine qc ?_ _)); refine blk_far ?_ NB173_186.out _; (with_reducible repeat (first | refine qa ?_ _ | refine qb ?_ | refine qc ?_ _)); refine blk_far ?_ NB173_186.out _; (with_reducible repeat (first | refine qa ?_ _ | refine qb ?_ | refine qc ?_ _)); refine blk_far ?_ NB173_186.out _; (with_reducible repeat (first | refine qa ?_ _ | refine qb ?_ | refine qc ?_ _)); exact BK173.out⟩
  have n3_ : Aside0 ((((((w16.setCell ⟨gb186, 0, none⟩ (.int .i64 t179)).setCell ⟨gb186, 1, none⟩ (.int .i64 t180)).setCell ⟨gb186, 2, none⟩ (.string t181)).setCell ⟨gb186, 3, none⟩ (.string t182)).setCell ⟨gb186, 4, none⟩ (.slice Ao20 t183.length co20)).heap[gb174]? = some (.cells #[.int .i64 a1_0, .int .i64 a1_1, .string a1_2, .string a1_3, .slice A1_4 l1_4.length c1_4] 26 (0, 0))) := ⟨by (with_reducible repeat (first | refine qa ?_ _ | refine qb ?_ | refine qc ?_ _)); refine blk_far ?_ NB174_186.out _; (with_reducible repeat (first | refine qa ?_ _ | refine qb ?_ | refine qc ?_ _)); refine blk_far ?_ NB174_186.out _; (with_reducible repeat (first | refine qa ?_ _ | refine qb ?_ | refine qc ?_ _)); refine blk_far ?_ NB174_186.out _; (with_reducible repeat (first | refine qa ?_ _ | refine qb ?_ | refine qc ?_ _)); refine blk_far ?_ NB174_186.out _; (with_reducible repeat (first | refine qa ?_ _ | refine qb ?_ | refine qc ?_ _)); refine blk_far ?_ NB174_186.out _; (with_reducible repeat (first | refine qa ?_ _ | refine qb ?_ | refine qc ?_ _)); exact BK174.out⟩
  have n4_ : Aside0 ((((((w16.setCell ⟨gb186, 0, none⟩ (.int .i64 t179)).setCell ⟨gb186, 1, none⟩ (.int .i64 t180)).setCell ⟨gb186, 2, none⟩ (.string t181)).setCell ⟨gb186, 3, none⟩ (.string t182)).setCell ⟨gb186, 4, none⟩ (.slice Ao20 t183.length co20)).heap[gb186]? = some (.cells #[.int .i64 t179, .int .i64 t180, .string t181, .string t182, .slice Ao20 t183.length co20] 26 (0, 0))) := ⟨by (with_reducible repeat (first | refine qa ?_ _ | refine qb ?_ | refine qc ?_ _)); refine blk_put (cs := #[.int .i64 t179, .int .i64 t180, .string t181, .string t182, .slice none 0 0]) ?_ 4 _ rfl; (with_reducible repeat (first | refine qa ?_ _ | refine qb ?_ | refine qc ?_ _)); refine blk_put (cs := #[.int .i64 t179, .int .i64 t180, .string t181, .string (⟨#[]⟩ : ByteArray), .slice none 0 0]) ?_ 3 _ rfl; (with_reducible repeat (first | refine qa ?_ _ | refine qb ?_ | refine qc ?_ _)); refine blk_put (cs := #[.int .i64 t179, .int .i64 t180, .string (⟨#[]⟩ : ByteArray), .string (⟨#[]⟩ : ByteArray), .slice none 0 0]) ?_ 2 _ rfl; (with_reducible repeat (first | refine qa ?_ _ | refine qb ?_ | refine qc ?_ _)); refine blk_put (cs := #[.int .i64 t179, .int .i64 0, .string (⟨#[]⟩ : ByteArray), .string (⟨#[]⟩ : ByteArray), .slice none 0 0]) ?_ 1 _ rfl; (with_reducible repeat (first | refine qa ?_ _ | refine qb ?_ | refine qc ?_ _)); refine blk_put (cs := #[.int .i64 0, .int .i64 0, .string (⟨#[]⟩ : ByteArray), .string (⟨#[]⟩ : ByteArray), .slice none 0 0]) ?_ 0 _ rfl; (with_reducible repeat (first | refine qa ?_ _ | refine qb ?_ | refine qc ?_ _)); exact BK186.out⟩
  have n5_ : Aside0 (Below w.heap.size w (((((w16.setCell ⟨gb186, 0, none⟩ (.int .i64 t179)).setCell ⟨gb186, 1, none⟩ (.int .i64 t180)).setCell ⟨gb186, 2, none⟩ (.string t181)).setCell ⟨gb186, 3, none⟩ (.string t182)).setCell ⟨gb186, 4, none⟩ (.slice Ao20 t183.length co20))) := ⟨by repeat (first | (with_reducible first | exact HB.out | apply qf | apply qn | apply qe | refine qd ?_ GE173.out | refine qd ?_ GE174.out | refine qd ?_ GE186.out) | exact HB.out)⟩
  (try clear HO177)
  (try clear HO185)
  (try clear BK173)
  (try clear BK174)
  (try clear BK186)
  (try clear HB)
  generalize (((((w16.setCell ⟨gb186, 0, none⟩ (.int .i64 t179)).setCell ⟨gb186, 1, none⟩ (.int .i64 t180)).setCell ⟨gb186, 2, none⟩ (.string t181)).setCell ⟨gb186, 3, none⟩ (.string t182)).setCell ⟨gb186, 4, none⟩ (.slice Ao20 t183.length co20)) = w33 at n0_ n1_ n2_ n3_ n4_ n5_ ⊢
  have HO177 := n0_
  have HO185 := n1_
  have BK173 := n2_
  have BK174 := n3_
  have BK186 := n4_
  have HB := n5_
  clear n0_ n1_ n2_ n3_ n4_ n5_
  have n0_ := Aside0.mk (qy HO177.out)
  have n1_ := Aside0.mk (qy HO185.out)
  have n2_ := Aside0.mk (qb BK173.out)
  have n3_ := Aside0.mk (qb BK174.out)
  have n4_ := Aside0.mk (qb BK186.out)
  have n5_ := Aside0.mk (qe HB.out)
  clear HO177
  clear HO185
  clear BK173
  clear BK174
  clear BK186
  clear HB
  have HO177 := n0_
  have HO185 := n1_
  have BK173 := n2_
  have BK174 := n3_
  have BK186 := n4_
  have HB := n5_
  clear n0_ n1_ n2_ n3_ n4_ n5_
  refine start_ (n := 36) (S := fun w' => w'.cell? ⟨gb186, 0, none⟩ = some (.int .i64 t179) ∧ w'.cell? ⟨gb186, 1, none⟩ = some (.int .i64 t180) ∧ w'.cell? ⟨gb186, 2, none⟩ = some (.string t181) ∧ w'.cell? ⟨gb186, 3, none⟩ = some (.string t182) ∧ w'.cell? ⟨gb186, 4, none⟩ = some (.slice Ao20 t183.length co20) ∧ w'.cell? ⟨gb174, 0, none⟩ = some (.int .i64 a1_0) ∧ w'.cell? ⟨gb174, 1, none⟩ = some (.int .i64 a1_1) ∧ w'.cell? ⟨gb174, 2, none⟩ = some (.string a1_2) ∧ w'.cell? ⟨gb174, 3, none⟩ = some (.string a1_3) ∧ w'.cell? ⟨gb174, 4, none⟩ = some (.slice A1_4 l1_4.length c1_4) ∧ w'.cell? ⟨gb173, 0, none⟩ = some (.int .i64 a0_0) ∧ w'.cell? ⟨gb173, 1, none⟩ = some (.int .i64 a0_1) ∧ w'.cell? ⟨gb173, 2, none⟩ = some (.string a0_2) ∧ w'.cell? ⟨gb173, 3, none⟩ = some (.string a0_3) ∧ w'.cell? ⟨gb173, 4, none⟩ = some (.slice A0_4 l0_4.length c0_4)) (ds := []) #[false, false, false, false, false, false, false, false, false, false, false, false, false, false, false, false, false, false, false, false, false, false, false, false, false, false, false, false, false, false, false, false, false, false, false, false] (by kernel_rfl) rfl rfl ⟨(qh BK186.out 0).trans rfl, (qh BK186.out 1).trans rfl, (qh BK186.out 2).trans rfl, (qh BK186.out 3).trans rfl, (qh BK186.out 4).trans rfl, (qh BK174.out 0).trans rfl, (qh BK174.out 1).trans rfl, (qh BK174.out 2).trans rfl, (qh BK174.out 3).trans rfl, (qh BK174.out 4).trans rfl, (qh BK173.out 0).trans rfl, (qh BK173.out 1).trans rfl, (qh BK173.out 2).trans rfl, (qh BK173.out 3).trans rfl, (qh BK173.out 4).trans rfl⟩ (fun hHeld => ?_); refine with_tabW hearsaylaw02_TermUnifies.tab3 hearsaylaw02_TermUnifies.bits3 (fun HT_ HW_ => ?_)
  generalize w33.drew = w34 at HO177 HO185 BK173 BK174 BK186 HB hHeld ⊢
  refine pure_ (i := 0) (N := some 22) (v := ?_) (a' := ?_) #[true, false, false, false, false, false, false, false, false, false, false, false, false, false, false, false, false, false, false, false, false, false, false, false, false, false, false, false, false, false, false, false, false, false, false, false] rfl rfl (any_of HT_.out (by kernel_rfl)) (fun _ _ _ h => h) (Or.inl ⟨by rfl, ?_⟩) ?_ ?_
  rotate_left
  · intro w'
    go_simp
    with_reducible rfl
  rotate_left
  · simp only [Act.put, List.setIfInBounds_toArray, List.set_cons_zero, List.set_cons_succ, i64_w, i32_w]
    rfl
  refine pure_ (i := 1) (N := some 23) (v := ?_) (a' := ?_) #[true, true, false, false, false, false, false, false, false, false, false, false, false, false, false, false, false, false, false, false, false, false, false, false, false, false, false, false, false, false, false, false, false, false, false, false] rfl rfl (any_of HT_.out (by kernel_rfl)) (fun _ _ _ h => h) (Or.inl ⟨by rfl, ?_⟩) ?_ ?_
  rotate_left
  · intro w'
    go_simp
    with_reducible rfl
  rotate_left
  · simp only [Act.put, List.setIfInBounds_toArray, List.set_cons_zero, List.set_cons_succ, i64_w, i32_w]
    rfl
  refine pure_ (i := 2) (N := some 24) (v := ?_) (a' := ?_) #[true, true, true, false, false, false, false, false, false, false, false, false, false, false, false, false, false, false, false, false, false, false, false, false, false, false, false, false, false, false, false, false, false, false, false, false] rfl rfl (any_of HT_.out (by kernel_rfl)) (fun _ _ _ h => h) (Or.inl ⟨by rfl, ?_⟩) ?_ ?_
  rotate_left
  · intro w'
    go_simp
    with_reducible rfl
  rotate_left
  · simp only [Act.put, List.setIfInBounds_toArray, List.set_cons_zero, List.set_cons_succ, i64_w, i32_w]
    rfl
  refine one_ (i := 3) (N := some 25) #[true, true, true, true, false, false, false, false, false, false, false, false, false, false, false, false, false, false, false, false, false, false, false, false, false, false, false, false, false, false, false, false, false, false, false, false] rfl rfl (one_of HT_.out (by kernel_rfl)) (by decide) (fun K hK => ?_)
  refine goes_ Tryd.func25 (by kernel_rfl) rfl #[.slice Ao14 t175.length co14] (by rfl) rfl rfl (by (try simp only [List.map_toArray, List.map_cons, List.map_nil]); first | done | rfl | (simp only [List.length_drop, List.length_take]; rfl)) ?_
  with_reducible refine (hearsaylaw02_rising.calls k _ _ t175 true _ ?side1 ?side2 A22.out).mono ?_
  (case side1 => repeat (first | exact (Kd.R_reads' HO177.out).2.2 | (with_reducible refine Kd.C_alloc ?_ _) | (with_reducible refine Kd.C_drewN ?_ _) | (with_reducible refine Kd.C_drew ?_)))
  (case side2 => exact (Kd.R_reads' HO177.out).2.1)
  rintro e w' ⟨rfl, ⟨nd, rfl⟩⟩
  refine ⟨_, rfl, ?_⟩
  refine hK.out _ _ ⟨(qh BK186.out 0).trans rfl, (qh BK186.out 1).trans rfl, (qh BK186.out 2).trans rfl, (qh BK186.out 3).trans rfl, (qh BK186.out 4).trans rfl, (qh BK174.out 0).trans rfl, (qh BK174.out 1).trans rfl, (qh BK174.out 2).trans rfl, (qh BK174.out 3).trans rfl, (qh BK174.out 4).trans rfl, (qh BK173.out 0).trans rfl, (qh BK173.out 1).trans rfl, (qh BK173.out 2).trans rfl, (qh BK173.out 3).trans rfl, (qh BK173.out 4).trans rfl⟩ (fun hHeld => ?_)
  clear hK K
  refine norm_ (a' := ?_) ?_ ?_
  rotate_left
  · show Act.put _ (some 25) _ = _
    simp only [Act.put, List.setIfInBounds_toArray, List.set_cons_zero, List.set_cons_succ, i64_w, i32_w]
    rfl
  refine pure_ (i := 4) (N := some 26) (v := ?_) (a' := ?_) #[true, true, true, true, true, false, false, false, false, false, false, false, false, false, false, false, false, false, false, false, false, false, false, false, false, false, false, false, false, false, false, false, false, false, false, false] rfl rfl (any_of HT_.out (by kernel_rfl)) (fun _ _ _ h => h) (Or.inl ⟨by rfl, ?_⟩) ?_ ?_
  rotate_left
  · intro w'
    go_simp
    with_reducible rfl
  rotate_left
  · simp only [Act.put, List.setIfInBounds_toArray, List.set_cons_zero, List.set_cons_succ, i64_w, i32_w]
    rfl
  refine pure_ (i := 5) (N := some 27) (v := ?_) (a' := ?_) #[true, true, true, true, true, true, false, false, false, false, false, false, false, false, false, false, false, false, false, false, false, false, false, false, false, false, false, false, false, false, false, false, false, false, false, false] rfl rfl (any_of HT_.out (by kernel_rfl)) (fun _ _ _ h => h) (Or.inl ⟨by rfl, ?_⟩) ?_ ?_
  rotate_left
  · intro w'
    go_simp
    with_reducible rfl
  rotate_left
  · simp only [Act.put, List.setIfInBounds_toArray, List.set_cons_zero, List.set_cons_succ, i64_w, i32_w]
    rfl
  refine pure_ (i := 7) (N := some 29) (v := ?_) (a' := ?_) #[true, true, true, true, true, true, false, true, false, false, false, false, false, false, false, false, false, false, false, false, false, false, false, false, false, false, false, false, false, false, false, false, false, false, false, false] rfl rfl (any_of HT_.out (by kernel_rfl)) (fun _ _ _ h => h) (Or.inl ⟨by rfl, ?_⟩) ?_ ?_
  rotate_left
  · intro w'
    go_simp
    with_reducible rfl
  rotate_left
  · simp only [Act.put, List.setIfInBounds_toArray, List.set_cons_zero, List.set_cons_succ, i64_w, i32_w]
    rfl
  refine take_ (i := 6) (N := some 28) (v := ?_) (a' := ?_) #[true, true, true, true, true, true, true, true, false, false, false, false, false, false, false, false, false, false, false, false, false, false, false, false, false, false, false, false, false, false, false, false, false, false, false, false] rfl rfl (take_ofW HT_.out HW_.out (by kernel_rfl)) (fun _ _ _ h => h) (Or.inl ⟨by rfl, ?_⟩) hHeld ?_ ?_
  rotate_left
  · rintro w' ⟨s0, s1, s2, s3, s4, s5, s6, s7, s8, s9, s10, s11, s12, s13, s14⟩
    go_simp
    with_reducible rfl
  rotate_left
  · simp only [Act.put, List.setIfInBounds_toArray, List.set_cons_zero, List.set_cons_succ, i64_w, i32_w]
    rfl
  refine take_ (i := 8) (N := some 30) (v := ?_) (a' := ?_) #[true, true, true, true, true, true, true, true, true, false, false, false, false, false, false, false, false, false, false, false, false, false, false, false, false, false, false, false, false, false, false, false, false, false, false, false] rfl rfl (take_ofW HT_.out HW_.out (by kernel_rfl)) (fun _ _ _ h => h) (Or.inl ⟨by rfl, ?_⟩) hHeld ?_ ?_
  rotate_left
  · rintro w' ⟨s0, s1, s2, s3, s4, s5, s6, s7, s8, s9, s10, s11, s12, s13, s14⟩
    go_simp
    with_reducible rfl
  rotate_left
  · simp only [Act.put, List.setIfInBounds_toArray, List.set_cons_zero, List.set_cons_succ, i64_w, i32_w]
    rfl
  refine one_ (i := 9) (N := some 31) #[true, true, true, true, true, true, true, true, true, true, false, false, false, false, false, false, false, false, false, false, false, false, false, false, false, false, false, false, false, false, false, false, false, false, false, false] rfl rfl (one_of HT_.out (by kernel_rfl)) (by decide) (fun K hK => ?_)
  refine goes_ Tryd.func23 (by kernel_rfl) rfl #[.slice Ao14 t175.length co14, .agg #[.int .i64 a1_0, .int .i64 a1_1, .string a1_2, .string a1_3, .slice A1_4 l1_4.length c1_4]] (by rfl) rfl rfl (by (try simp only [List.map_toArray, List.map_cons, List.map_nil]); first | done | rfl | (simp only [List.length_drop, List.length_take]; rfl)) ?_
  with_reducible refine (term_Apply.calls k _ _ t175 a1_0 a1_1 a1_2 a1_3 _ _ l1_4 t188 t189 t190 t191 t192 _ ?side1 ?side2 ?side3 ?side4 ?side5 A24.out).mono ?_
  (case side1 => repeat (first | exact (Kd.R_reads' HO177.out).2.2 | (with_reducible refine Kd.C_alloc ?_ _) | (with_reducible refine Kd.C_drewN ?_ _) | (with_reducible refine Kd.C_drew ?_)))
  (case side2 => exact (Kd.R_reads' HO177.out).2.1)
  (case side3 => repeat (first | exact (Kd.C_below HR1_4.out (by repeat (first | (with_reducible first | exact HB.out | apply qf | apply qn | apply qe | refine qd ?_ GE173.out | refine qd ?_ GE174.out | refine qd ?_ GE186.out) | exact HB.out))) | (with_reducible refine Kd.C_alloc ?_ _) | (with_reducible refine Kd.C_drewN ?_ _) | (with_reducible refine Kd.C_drew ?_)))
  (case side4 => exact HC1_4.out)
  (case side5 => exact Laid2.up HLD2.out (by repeat (first | (with_reducible first | exact HB.out | apply qf | apply qn | apply qe | refine qd ?_ GE173.out | refine qd ?_ GE174.out | refine qd ?_ GE186.out) | exact HB.out)))
  rintro e w35 ⟨v193, rfl, ho0, hb⟩
  refine ⟨_, rfl, ?_⟩
  have n0_ := Aside0.mk (Kd.R_below (by (with_reducible repeat (first | apply qz | apply qx | apply qy)); exact HO177.out) hb)
  have n1_ := Aside0.mk (Kd.R_elder' (by (with_reducible repeat (first | apply qz | apply qx | apply qy)); exact HO185.out) (Kd.R_base ho0) hb)
  have n2_ := Aside0.mk (Kd.R_lower (Kd.R_new' ho0 (Kd.R_lt (by (with_reducible repeat (first | apply qz | apply qx | apply qy)); exact HO185.out))) (below_size (by repeat (first | (with_reducible first | exact HB.out | apply qf | apply qn | apply qe | refine qd ?_ GE173.out | refine qd ?_ GE174.out | refine qd ?_ GE186.out) | exact HB.out))))
  have n3_ := Aside0.mk (qw (g := gb173) (o := .cells #[.int .i64 a0_0, .int .i64 a0_1, .string a0_2, .string a0_3, .slice A0_4 l0_4.length c0_4] 26 (0, 0)) (by (with_reducible repeat (first | refine qa ?_ _ | refine qb ?_ | refine qc ?_ _)); exact BK173.out) hb)
  have n4_ := Aside0.mk (qw (g := gb174) (o := .cells #[.int .i64 a1_0, .int .i64 a1_1, .string a1_2, .string a1_3, .slice A1_4 l1_4.length c1_4] 26 (0, 0)) (by (with_reducible repeat (first | refine qa ?_ _ | refine qb ?_ | refine qc ?_ _)); exact BK174.out) hb)
  have n5_ := Aside0.mk (qw (g := gb186) (o := .cells #[.int .i64 t179, .int .i64 t180, .string t181, .string t182, .slice Ao20 t183.length co20] 26 (0, 0)) (by (with_reducible repeat (first | refine qa ?_ _ | refine qb ?_ | refine qc ?_ _)); exact BK186.out) hb)
  have n6_ := Aside0.mk (below_step (by repeat (first | (with_reducible first | exact HB.out | apply qf | apply qn | apply qe | refine qd ?_ GE173.out | refine qd ?_ GE174.out | refine qd ?_ GE186.out) | exact HB.out)) hb)
  clear HO177
  clear HO185
  clear BK173
  clear BK174
  clear BK186
  clear HB
  have HO177 := n0_
  have HO185 := n1_
  have HO194 := n2_
  have BK173 := n3_
  have BK174 := n4_
  have BK186 := n5_
  have HB := n6_
  clear n0_ n1_ n2_ n3_ n4_ n5_ n6_
  (try clear hb)
  (try clear hb2)
  (try clear hk)
  (try clear hi)
  (try clear ho0)
  obtain ⟨Ao36, co36, eo36⟩ := Kd.R_slice HO194.out
  (first | subst eo36 | (injection eo36 with f1_ f2_ f3_; have f4_ := f1_.symm; have f5_ := f3_.symm; clear f1_ f2_ f3_; subst f4_; subst f5_))
  refine hK.out _ _ ⟨(qh BK186.out 0).trans rfl, (qh BK186.out 1).trans rfl, (qh BK186.out 2).trans rfl, (qh BK186.out 3).trans rfl, (qh BK186.out 4).trans rfl, (qh BK174.out 0).trans rfl, (qh BK174.out 1).trans rfl, (qh BK174.out 2).trans rfl, (qh BK174.out 3).trans rfl, (qh BK174.out 4).trans rfl, (qh BK173.out 0).trans rfl, (qh BK173.out 1).trans rfl, (qh BK173.out 2).trans rfl, (qh BK173.out 3).trans rfl, (qh BK173.out 4).trans rfl⟩ (fun hHeld => ?_)
  clear hK K
  refine norm_ (a' := ?_) ?_ ?_
  rotate_left
  · show Act.put _ (some 31) _ = _
    simp only [Act.put, List.setIfInBounds_toArray, List.set_cons_zero, List.set_cons_succ, i64_w, i32_w]
    rfl
  refine one_ (i := 10) (N := some 32) #[true, true, true, true, true, true, true, true, true, true, true, false, false, false, false, false, false, false, false, false, false, false, false, false, false, false, false, false, false, false, false, false, false, false, false, false] rfl rfl (one_of HT_.out (by kernel_rfl)) (by decide) (fun K hK => ?_)
  refine goes_ Tryd.func22 (by kernel_rfl) rfl #[.agg #[.int .i64 t179, .int .i64 t180, .string t181, .string t182, .slice Ao20 t183.length co20], .agg #[.int .i64 t188, .int .i64 t189, .string t190, .string t191, .slice Ao36 t192.length co36]] (by rfl) rfl rfl (by (try simp only [List.map_toArray, List.map_cons, List.map_nil]); first | done | rfl | (simp only [List.length_drop, List.length_take]; rfl)) ?_
  with_reducible refine (hearsaylaw02_same.calls k t179 t180 t181 t182 _ _ t183 t188 t189 t190 t191 _ _ t192 true _ ?side1 ?side2 ?side3 ?side4 A25.out).mono ?_
  (case side1 => repeat (first | exact (Kd.R_reads' HO185.out).2.2 | (with_reducible refine Kd.C_alloc ?_ _) | (with_reducible refine Kd.C_drewN ?_ _) | (with_reducible refine Kd.C_drew ?_)))
  (case side2 => exact (Kd.R_reads' HO185.out).2.1)
  (case side3 => repeat (first | exact (Kd.R_reads' HO194.out).2.2 | (with_reducible refine Kd.C_alloc ?_ _) | (with_reducible refine Kd.C_drewN ?_ _) | (with_reducible refine Kd.C_drew ?_)))
  (case side4 => exact (Kd.R_reads' HO194.out).2.1)
  rintro e w37 ⟨rfl, hb⟩
  refine ⟨_, rfl, ?_⟩
  have n0_ := Aside0.mk (Kd.R_below (by (with_reducible repeat (first | apply qz | apply qx | apply qy)); exact HO177.out) hb)
  have n1_ := Aside0.mk (Kd.R_below (by (with_reducible repeat (first | apply qz | apply qx | apply qy)); exact HO185.out) hb)
  have n2_ := Aside0.mk (Kd.R_below (by (with_reducible repeat (first | apply qz | apply qx | apply qy)); exact HO194.out) hb)
  have n3_ := Aside0.mk (qw (g := gb173) (o := .cells #[.int .i64 a0_0, .int .i64 a0_1, .string a0_2, .string a0_3, .slice A0_4 l0_4.length c0_4] 26 (0, 0)) (by (with_reducible repeat (first | refine qa ?_ _ | refine qb ?_ | refine qc ?_ _)); exact BK173.out) hb)
  have n4_ := Aside0.mk (qw (g := gb174) (o := .cells #[.int .i64 a1_0, .int .i64 a1_1, .string a1_2, .string a1_3, .slice A1_4 l1_4.length c1_4] 26 (0, 0)) (by (with_reducible repeat (first | refine qa ?_ _ | refine qb ?_ | refine qc ?_ _)); exact BK174.out) hb)
  have n5_ := Aside0.mk (qw (g := gb186) (o := .cells #[.int .i64 t179, .int .i64 t180, .string t181, .string t182, .slice Ao20 t183.length co20] 26 (0, 0)) (by (with_reducible repeat (first | refine qa ?_ _ | refine qb ?_ | refine qc ?_ _)); exact BK186.out) hb)
  have n6_ := Aside0.mk (below_step (by repeat (first | (with_reducible first | exact HB.out | apply qf | apply qn | apply qe | refine qd ?_ GE173.out | refine qd ?_ GE174.out | refine qd ?_ GE186.out) | exact HB.out)) hb)
  clear HO177
  clear HO185
  clear HO194
  clear BK173
  clear BK174
  clear BK186
  clear HB
  have HO177 := n0_
  have HO185 := n1_
  have HO194 := n2_
  have BK173 := n3_
  have BK174 := n4_
  have BK186 := n5_
  have HB := n6_
  clear n0_ n1_ n2_ n3_ n4_ n5_ n6_
  (try clear hb)
  (try clear hb2)
  (try clear hk)
  (try clear hi)
  refine hK.out _ _ ⟨(qh BK186.out 0).trans rfl, (qh BK186.out 1).trans rfl, (qh BK186.out 2).trans rfl, (qh BK186.out 3).trans rfl, (qh BK186.out 4).trans rfl, (qh BK174.out 0).trans rfl, (qh BK174.out 1).trans rfl, (qh BK174.out 2).trans rfl, (qh BK174.out 3).trans rfl, (qh BK174.out 4).trans rfl, (qh BK173.out 0).trans rfl, (qh BK173.out 1).trans rfl, (qh BK173.out 2).trans rfl, (qh BK173.out 3).trans rfl, (qh BK173.out 4).trans rfl⟩ (fun hHeld => ?_)
  clear hK K
  refine norm_ (a' := ?_) ?_ ?_
  rotate_left
  · show Act.put _ (some 32) _ = _
    simp only [Act.put, List.setIfInBounds_toArray, List.set_cons_zero, List.set_cons_succ, i64_w, i32_w]
    rfl
  refine pure_ (i := 11) (N := some 33) (v := ?_) (a' := ?_) #[true, true, true, true, true, true, true, true, true, true, true, true, false, false, false, false, false, false, false, false, false, false, false, false, false, false, false, false, false, false, false, false, false, false, false, false] rfl rfl (any_of HT_.out (by kernel_rfl)) (fun _ _ _ h => h) (Or.inl ⟨by rfl, ?_⟩) ?_ ?_
  rotate_left
  · intro w'
    go_simp
    with_reducible rfl
  rotate_left
  · simp only [Act.put, List.setIfInBounds_toArray, List.set_cons_zero, List.set_cons_succ, i64_w, i32_w]
    rfl
  refine pure_ (i := 12) (N := some 34) (v := ?_) (a' := ?_) #[true, true, true, true, true, true, true, true, true, true, true, true, true, false, false, false, false, false, false, false, false, false, false, false, false, false, false, false, false, false, false, false, false, false, false, false] rfl rfl (any_of HT_.out (by kernel_rfl)) (fun _ _ _ h => h) (Or.inl ⟨by rfl, ?_⟩) ?_ ?_
  rotate_left
  · intro w'
    go_simp
    with_reducible rfl
  rotate_left
  · simp only [Act.put, List.setIfInBounds_toArray, List.set_cons_zero, List.set_cons_succ, i64_w, i32_w]
    rfl
  refine pure_ (i := 13) (N := some 35) (v := ?_) (a' := ?_) #[true, true, true, true, true, true, true, true, true, true, true, true, true, true, false, false, false, false, false, false, false, false, false, false, false, false, false, false, false, false, false, false, false, false, false, false] rfl rfl (any_of HT_.out (by kernel_rfl)) (fun _ _ _ h => h) (Or.inl ⟨by rfl, ?_⟩) ?_ ?_
  rotate_left
  · intro w'
    go_simp
    with_reducible rfl
  rotate_left
  · simp only [Act.put, List.setIfInBounds_toArray, List.set_cons_zero, List.set_cons_succ, i64_w, i32_w]
    rfl
  refine pure_ (i := 14) (N := some 36) (v := ?_) (a' := ?_) #[true, true, true, true, true, true, true, true, true, true, true, true, true, true, true, false, false, false, false, false, false, false, false, false, false, false, false, false, false, false, false, false, false, false, false, false] rfl rfl (any_of HT_.out (by kernel_rfl)) (fun _ _ _ h => h) (Or.inl ⟨by rfl, ?_⟩) ?_ ?_
  rotate_left
  · intro w'
    go_simp
    with_reducible rfl
  rotate_left
  · simp only [Act.put, List.setIfInBounds_toArray, List.set_cons_zero, List.set_cons_succ, i64_w, i32_w]
    rfl
  refine take_ (i := 15) (N := some 37) (v := ?_) (a' := ?_) #[true, true, true, true, true, true, true, true, true, true, true, true, true, true, true, true, false, false, false, false, false, false, false, false, false, false, false, false, false, false, false, false, false, false, false, false] rfl rfl (take_ofW HT_.out HW_.out (by kernel_rfl)) (fun _ _ _ h => h) (Or.inl ⟨by rfl, ?_⟩) hHeld ?_ ?_
  rotate_left
  · rintro w' ⟨s0, s1, s2, s3, s4, s5, s6, s7, s8, s9, s10, s11, s12, s13, s14⟩
    go_simp
    with_reducible rfl
  rotate_left
  · simp only [Act.put, List.setIfInBounds_toArray, List.set_cons_zero, List.set_cons_succ, i64_w, i32_w]
    rfl
  refine take_ (i := 17) (N := some 39) (v := ?_) (a' := ?_) #[true, true, true, true, true, true, true, true, true, true, true, true, true, true, true, true, false, true, false, false, false, false, false, false, false, false, false, false, false, false, false, false, false, false, false, false] rfl rfl (take_ofW HT_.out HW_.out (by kernel_rfl)) (fun _ _ _ h => h) (Or.inl ⟨by rfl, ?_⟩) hHeld ?_ ?_
  rotate_left
  · rintro w' ⟨s0, s1, s2, s3, s4, s5, s6, s7, s8, s9, s10, s11, s12, s13, s14⟩
    go_simp
    with_reducible rfl
  rotate_left
  · simp only [Act.put, List.setIfInBounds_toArray, List.set_cons_zero, List.set_cons_succ, i64_w, i32_w]
    rfl
  refine one_ (i := 16) (N := some 38) #[true, true, true, true, true, true, true, true, true, true, true, true, true, true, true, true, true, true, false, false, false, false, false, false, false, false, false, false, false, false, false, false, false, false, false, false] rfl rfl (one_of HT_.out (by kernel_rfl)) (by decide) (fun K hK => ?_)
  refine goes_ Tryd.func23 (by kernel_rfl) rfl #[.slice Ao14 t175.length co14, .agg #[.int .i64 t179, .int .i64 t180, .string t181, .string t182, .slice Ao20 t183.length co20]] (by rfl) rfl rfl (by (try simp only [List.map_toArray, List.map_cons, List.map_nil]); first | done | rfl | (simp only [List.length_drop, List.length_take]; rfl)) ?_
  with_reducible refine (term_Apply.calls k _ _ t175 t179 t180 t181 t182 _ _ t183 t196 t197 t198 t199 t200 _ ?side1 ?side2 ?side3 ?side4 ?side5 A27.out).mono ?_
  (case side1 => repeat (first | exact (Kd.R_reads' HO177.out).2.2 | (with_reducible refine Kd.C_alloc ?_ _) | (with_reducible refine Kd.C_drewN ?_ _) | (with_reducible refine Kd.C_drew ?_)))
  (case side2 => exact (Kd.R_reads' HO177.out).2.1)
  (case side3 => repeat (first | exact (Kd.R_reads' HO185.out).2.2 | (with_reducible refine Kd.C_alloc ?_ _) | (with_reducible refine Kd.C_drewN ?_ _) | (with_reducible refine Kd.C_drew ?_)))
  (case side4 => exact (Kd.R_reads' HO185.out).2.1)
  (case side5 => exact Laid2.up HLD2.out (by repeat (first | (with_reducible first | exact HB.out | apply qf | apply qn | apply qe | refine qd ?_ GE173.out | refine qd ?_ GE174.out | refine qd ?_ GE186.out) | exact HB.out)))
  rintro e w38 ⟨v201, rfl, ho0, hb⟩
  refine ⟨_, rfl, ?_⟩
  have n0_ := Aside0.mk (Kd.R_below (by (with_reducible repeat (first | apply qz | apply qx | apply qy)); exact HO177.out) hb)
  have n1_ := Aside0.mk (Kd.R_elder' (by (with_reducible repeat (first | apply qz | apply qx | apply qy)); exact HO185.out) (Kd.R_base ho0) hb)
  have n2_ := Aside0.mk (Kd.R_elder' (by (with_reducible repeat (first | apply qz | apply qx | apply qy)); exact HO194.out) (Kd.R_base ho0) hb)
  have n3_ := Aside0.mk (Kd.R_lower (Kd.R_new' (Kd.R_new' ho0 (Kd.R_lt (by (with_reducible repeat (first | apply qz | apply qx | apply qy)); exact HO185.out))) (Kd.R_lt (by (with_reducible repeat (first | apply qz | apply qx | apply qy)); exact HO194.out))) (below_size (by repeat (first | (with_reducible first | exact HB.out | apply qf | apply qn | apply qe | refine qd ?_ GE173.out | refine qd ?_ GE174.out | refine qd ?_ GE186.out) | exact HB.out))))
  have n4_ := Aside0.mk (qw (g := gb173) (o := .cells #[.int .i64 a0_0, .int .i64 a0_1, .string a0_2, .string a0_3, .slice A0_4 l0_4.length c0_4] 26 (0, 0)) (by (with_reducible repeat (first | refine qa ?_ _ | refine qb ?_ | refine qc ?_ _)); exact BK173.out) hb)
  have n5_ := Aside0.mk (qw (g := gb174) (o := .cells #[.int .i64 a1_0, .int .i64 a1_1, .string a1_2, .string a1_3, .slice A1_4 l1_4.length c1_4] 26 (0, 0)) (by (with_reducible repeat (first | refine qa ?_ _ | refine qb ?_ | refine qc ?_ _)); exact BK174.out) hb)
  have n6_ := Aside0.mk (qw (g := gb186) (o := .cells #[.int .i64 t179, .int .i64 t180, .string t181, .string t182, .slice Ao20 t183.length co20] 26 (0, 0)) (by (with_reducible repeat (first | refine qa ?_ _ | refine qb ?_ | refine qc ?_ _)); exact BK186.out) hb)
  have n7_ := Aside0.mk (below_step (by repeat (first | (with_reducible first | exact HB.out | apply qf | apply qn | apply qe | refine qd ?_ GE173.out | refine qd ?_ GE174.out | refine qd ?_ GE186.out) | exact HB.out)) hb)
  clear HO177
  clear HO185
  clear HO194
  clear BK173
  clear BK174
  clear BK186
  clear HB
  have HO177 := n0_
  have HO185 := n1_
  have HO194 := n2_
  have HO202 := n3_
  have BK173 := n4_
  have BK174 := n5_
  have BK186 := n6_
  have HB := n7_
  clear n0_ n1_ n2_ n3_ n4_ n5_ n6_ n7_
  (try clear hb)
  (try clear hb2)
  (try clear hk)
  (try clear hi)
  (try clear ho0)
  obtain ⟨Ao39, co39, eo39⟩ := Kd.R_slice HO202.out
  (first | subst eo39 | (injection eo39 with f1_ f2_ f3_; have f4_ := f1_.symm; have f5_ := f3_.symm; clear f1_ f2_ f3_; subst f4_; subst f5_))
  refine hK.out _ _ ⟨(qh BK186.out 0).trans rfl, (qh BK186.out 1).trans rfl, (qh BK186.out 2).trans rfl, (qh BK186.out 3).trans rfl, (qh BK186.out 4).trans rfl, (qh BK174.out 0).trans rfl, (qh BK174.out 1).trans rfl, (qh BK174.out 2).trans rfl, (qh BK174.out 3).trans rfl, (qh BK174.out 4).trans rfl, (qh BK173.out 0).trans rfl, (qh BK173.out 1).trans rfl, (qh BK173.out 2).trans rfl, (qh BK173.out 3).trans rfl, (qh BK173.out 4).trans rfl⟩ (fun hHeld => ?_)
  clear hK K
  refine norm_ (a' := ?_) ?_ ?_
  rotate_left
  · show Act.put _ (some 38) _ = _
    simp only [Act.put, List.setIfInBounds_toArray, List.set_cons_zero, List.set_cons_succ, i64_w, i32_w]
    rfl
  refine one_ (i := 18) (N := some 40) #[true, true, true, true, true, true, true, true, true, true, true, true, true, true, true, true, true, true, true, false, false, false, false, false, false, false, false, false, false, false, false, false, false, false, false, false] rfl rfl (one_of HT_.out (by kernel_rfl)) (by decide) (fun K hK => ?_)
  refine goes_ Tryd.func22 (by kernel_rfl) rfl #[.agg #[.int .i64 t196, .int .i64 t197, .string t198, .string t199, .slice Ao39 t200.length co39], .agg #[.int .i64 t179, .int .i64 t180, .string t181, .string t182, .slice Ao20 t183.length co20]] (by rfl) rfl rfl (by (try simp only [List.map_toArray, List.map_cons, List.map_nil]); first | done | rfl | (simp only [List.length_drop, List.length_take]; rfl)) ?_
  with_reducible refine (hearsaylaw02_same.calls k t196 t197 t198 t199 _ _ t200 t179 t180 t181 t182 _ _ t183 true _ ?side1 ?side2 ?side3 ?side4 A28.out).mono ?_
  (case side1 => repeat (first | exact (Kd.R_reads' HO202.out).2.2 | (with_reducible refine Kd.C_alloc ?_ _) | (with_reducible refine Kd.C_drewN ?_ _) | (with_reducible refine Kd.C_drew ?_)))
  (case side2 => exact (Kd.R_reads' HO202.out).2.1)
  (case side3 => repeat (first | exact (Kd.R_reads' HO185.out).2.2 | (with_reducible refine Kd.C_alloc ?_ _) | (with_reducible refine Kd.C_drewN ?_ _) | (with_reducible refine Kd.C_drew ?_)))
  (case side4 => exact (Kd.R_reads' HO185.out).2.1)
  rintro e w40 ⟨rfl, hb⟩
  refine ⟨_, rfl, ?_⟩
  have n0_ := Aside0.mk (Kd.R_below (by (with_reducible repeat (first | apply qz | apply qx | apply qy)); exact HO177.out) hb)
  have n1_ := Aside0.mk (Kd.R_below (by (with_reducible repeat (first | apply qz | apply qx | apply qy)); exact HO185.out) hb)
  have n2_ := Aside0.mk (Kd.R_below (by (with_reducible repeat (first | apply qz | apply qx | apply qy)); exact HO194.out) hb)
  have n3_ := Aside0.mk (Kd.R_below (by (with_reducible repeat (first | apply qz | apply qx | apply qy)); exact HO202.out) hb)
  have n4_ := Aside0.mk (qw (g := gb173) (o := .cells #[.int .i64 a0_0, .int .i64 a0_1, .string a0_2, .string a0_3, .slice A0_4 l0_4.length c0_4] 26 (0, 0)) (by (with_reducible repeat (first | refine qa ?_ _ | refine qb ?_ | refine qc ?_ _)); exact BK173.out) hb)
  have n5_ := Aside0.mk (qw (g := gb174) (o := .cells #[.int .i64 a1_0, .int .i64 a1_1, .string a1_2, .string a1_3, .slice A1_4 l1_4.length c1_4] 26 (0, 0)) (by (with_reducible repeat (first | refine qa ?_ _ | refine qb ?_ | refine qc ?_ _)); exact BK174.out) hb)
  have n6_ := Aside0.mk (qw (g := gb186) (o := .cells #[.int .i64 t179, .int .i64 t180, .string t181, .string t182, .slice Ao20 t183.length co20] 26 (0, 0)) (by (with_reducible repeat (first | refine qa ?_ _ | refine qb ?_ | refine qc ?_ _)); exact BK186.out) hb)
  have n7_ := Aside0.mk (below_step (by repeat (first | (with_reducible first | exact HB.out | apply qf | apply qn | apply qe | refine qd ?_ GE173.out | refine qd ?_ GE174.out | refine qd ?_ GE186.out) | exact HB.out)) hb)
  clear HO177
  clear HO185
  clear HO194
  clear HO202
  clear BK173
  clear BK174
  clear BK186
  clear HB
  have HO177 := n0_
  have HO185 := n1_
  have HO194 := n2_
  have HO202 := n3_
  have BK173 := n4_
  have BK174 := n5_
  have BK186 := n6_
  have HB := n7_
  clear n0_ n1_ n2_ n3_ n4_ n5_ n6_ n7_
  (try clear hb)
  (try clear hb2)
  (try clear hk)
  (try clear hi)
  refine hK.out _ _ ⟨(qh BK186.out 0).trans rfl, (qh BK186.out 1).trans rfl, (qh BK186.out 2).trans rfl, (qh BK186.out 3).trans rfl, (qh BK186.out 4).trans rfl, (qh BK174.out 0).trans rfl, (qh BK174.out 1).trans rfl, (qh BK174.out 2).trans rfl, (qh BK174.out 3).trans rfl, (qh BK174.out 4).trans rfl, (qh BK173.out 0).trans rfl, (qh BK173.out 1).trans rfl, (qh BK173.out 2).trans rfl, (qh BK173.out 3).trans rfl, (qh BK173.out 4).trans rfl⟩ (fun hHeld => ?_)
  clear hK K
  refine norm_ (a' := ?_) ?_ ?_
  rotate_left
  · show Act.put _ (some 40) _ = _
    simp only [Act.put, List.setIfInBounds_toArray, List.set_cons_zero, List.set_cons_succ, i64_w, i32_w]
    rfl
  refine pure_ (i := 19) (N := some 41) (v := ?_) (a' := ?_) #[true, true, true, true, true, true, true, true, true, true, true, true, true, true, true, true, true, true, true, true, false, false, false, false, false, false, false, false, false, false, false, false, false, false, false, false] rfl rfl (any_of HT_.out (by kernel_rfl)) (fun _ _ _ h => h) (Or.inl ⟨by rfl, ?_⟩) ?_ ?_
  rotate_left
  · intro w'
    go_simp
    with_reducible rfl
  rotate_left
  · simp only [Act.put, List.setIfInBounds_toArray, List.set_cons_zero, List.set_cons_succ, i64_w, i32_w]
    rfl
  refine pure_ (i := 20) (N := some 42) (v := ?_) (a' := ?_) #[true, true, true, true, true, true, true, true, true, true, true, true, true, true, true, true, true, true, true, true, true, false, false, false, false, false, false, false, false, false, false, false, false, false, false, false] rfl rfl (any_of HT_.out (by kernel_rfl)) (fun _ _ _ h => h) (Or.inl ⟨by rfl, ?_⟩) ?_ ?_
  rotate_left
  · intro w'
    go_simp
    with_reducible rfl
  rotate_left
  · simp only [Act.put, List.setIfInBounds_toArray, List.set_cons_zero, List.set_cons_succ, i64_w, i32_w]
    rfl
  refine pure_ (i := 21) (N := some 43) (v := ?_) (a' := ?_) #[true, true, true, true, true, true, true, true, true, true, true, true, true, true, true, true, true, true, true, true, true, true, false, false, false, false, false, false, false, false, false, false, false, false, false, false] rfl rfl (any_of HT_.out (by kernel_rfl)) (fun _ _ _ h => h) (Or.inl ⟨by rfl, ?_⟩) ?_ ?_
  rotate_left
  · intro w'
    go_simp
    with_reducible rfl
  rotate_left
  · simp only [Act.put, List.setIfInBounds_toArray, List.set_cons_zero, List.set_cons_succ, i64_w, i32_w]
    rfl
  refine pure_ (i := 22) (N := some 44) (v := ?_) (a' := ?_) #[true, true, true, true, true, true, true, true, true, true, true, true, true, true, true, true, true, true, true, true, true, true, true, false, false, false, false, false, false, false, false, false, false, false, false, false] rfl rfl (any_of HT_.out (by kernel_rfl)) (fun _ _ _ h => h) (Or.inl ⟨by rfl, ?_⟩) ?_ ?_
  rotate_left
  · intro w'
    go_simp
    with_reducible rfl
  rotate_left
  · simp only [Act.put, List.setIfInBounds_toArray, List.set_cons_zero, List.set_cons_succ, i64_w, i32_w]
    rfl
  refine pure_ (i := 23) (N := some 45) (v := ?_) (a' := ?_) #[true, true, true, true, true, true, true, true, true, true, true, true, true, true, true, true, true, true, true, true, true, true, true, true, false, false, false, false, false, false, false, false, false, false, false, false] rfl rfl (any_of HT_.out (by kernel_rfl)) (fun _ _ _ h => h) (Or.inl ⟨by rfl, ?_⟩) ?_ ?_
  rotate_left
  · intro w'
    go_simp
    with_reducible rfl
  rotate_left
  · simp only [Act.put, List.setIfInBounds_toArray, List.set_cons_zero, List.set_cons_succ, i64_w, i32_w]
    rfl
  refine take_ (i := 24) (N := some 46) (v := ?_) (a' := ?_) #[true, true, true, true, true, true, true, true, true, true, true, true, true, true, true, true, true, true, true, true, true, true, true, true, true, false, false, false, false, false, false, false, false, false, false, false] rfl rfl (take_ofW HT_.out HW_.out (by kernel_rfl)) (fun _ _ _ h => h) (Or.inl ⟨by rfl, ?_⟩) hHeld ?_ ?_
  rotate_left
  · rintro w' ⟨s0, s1, s2, s3, s4, s5, s6, s7, s8, s9, s10, s11, s12, s13, s14⟩
    go_simp
    with_reducible rfl
  rotate_left
  · simp only [Act.put, List.setIfInBounds_toArray, List.set_cons_zero, List.set_cons_succ, i64_w, i32_w]
    rfl
  refine one_ (i := 25) (N := some 47) #[true, true, true, true, true, true, true, true, true, true, true, true, true, true, true, true, true, true, true, true, true, true, true, true, true, true, false, false, false, false, false, false, false, false, false, false] rfl rfl (one_of HT_.out (by kernel_rfl)) (by decide) (fun K hK => ?_)
  refine goes_ Tryd.func38 (by kernel_rfl) rfl #[.slice Ao14 t175.length co14, .agg #[.int .i64 a0_0, .int .i64 a0_1, .string a0_2]] (by rfl) rfl rfl (by (try simp only [List.map_toArray, List.map_cons, List.map_nil]); first | done | rfl | (simp only [List.length_drop, List.length_take]; rfl)) ?_
  with_reducible refine (hearsaylaw02_fits.calls k _ _ t175 a0_0 a0_1 a0_2 true _ ?side1 ?side2 ?side3 A30.out).mono ?_
  (case side1 => repeat (first | exact (Kd.R_reads' HO177.out).2.2 | (with_reducible refine Kd.C_alloc ?_ _) | (with_reducible refine Kd.C_drewN ?_ _) | (with_reducible refine Kd.C_drew ?_)))
  (case side2 => exact (Kd.R_reads' HO177.out).2.1)
  (case side3 => exact Laid2.up HLD2.out (by repeat (first | (with_reducible first | exact HB.out | apply qf | apply qn | apply qe | refine qd ?_ GE173.out | refine qd ?_ GE174.out | refine qd ?_ GE186.out) | exact HB.out)))
  rintro e w41 ⟨rfl, hb⟩
  refine ⟨_, rfl, ?_⟩
  have n0_ := Aside0.mk (Kd.R_below (by (with_reducible repeat (first | apply qz | apply qx | apply qy)); exact HO177.out) hb)
  have n1_ := Aside0.mk (Kd.R_below (by (with_reducible repeat (first | apply qz | apply qx | apply qy)); exact HO185.out) hb)
  have n2_ := Aside0.mk (Kd.R_below (by (with_reducible repeat (first | apply qz | apply qx | apply qy)); exact HO194.out) hb)
  have n3_ := Aside0.mk (Kd.R_below (by (with_reducible repeat (first | apply qz | apply qx | apply qy)); exact HO202.out) hb)
  have n4_ := Aside0.mk (qw (g := gb173) (o := .cells #[.int .i64 a0_0, .int .i64 a0_1, .string a0_2, .string a0_3, .slice A0_4 l0_4.length c0_4] 26 (0, 0)) (by (with_reducible repeat (first | refine qa ?_ _ | refine qb ?_ | refine qc ?_ _)); exact BK173.out) hb)
  have n5_ := Aside0.mk (qw (g := gb174) (o := .cells #[.int .i64 a1_0, .int .i64 a1_1, .string a1_2, .string a1_3, .slice A1_4 l1_4.length c1_4] 26 (0, 0)) (by (with_reducible repeat (first | refine qa ?_ _ | refine qb ?_ | refine qc ?_ _)); exact BK174.out) hb)
  have n6_ := Aside0.mk (qw (g := gb186) (o := .cells #[.int .i64 t179, .int .i64 t180, .string t181, .string t182, .slice Ao20 t183.length co20] 26 (0, 0)) (by (with_reducible repeat (first | refine qa ?_ _ | refine qb ?_ | refine qc ?_ _)); exact BK186.out) hb)
  have n7_ := Aside0.mk (below_step (by repeat (first | (with_reducible first | exact HB.out | apply qf | apply qn | apply qe | refine qd ?_ GE173.out | refine qd ?_ GE174.out | refine qd ?_ GE186.out) | exact HB.out)) hb)
  clear HO177
  clear HO185
  clear HO194
  clear HO202
  clear BK173
  clear BK174
  clear BK186
  clear HB
  have HO177 := n0_
  have HO185 := n1_
  have HO194 := n2_
  have HO202 := n3_
  have BK173 := n4_
  have BK174 := n5_
  have BK186 := n6_
  have HB := n7_
  clear n0_ n1_ n2_ n3_ n4_ n5_ n6_ n7_
  (try clear hb)
  (try clear hb2)
  (try clear hk)
  (try clear hi)
  refine hK.out _ _ ⟨(qh BK186.out 0).trans rfl, (qh BK186.out 1).trans rfl, (qh BK186.out 2).trans rfl, (qh BK186.out 3).trans rfl, (qh BK186.out 4).trans rfl, (qh BK174.out 0).trans rfl, (qh BK174.out 1).trans rfl, (qh BK174.out 2).trans rfl, (qh BK174.out 3).trans rfl, (qh BK174.out 4).trans rfl, (qh BK173.out 0).trans rfl, (qh BK173.out 1).trans rfl, (qh BK173.out 2).trans rfl, (qh BK173.out 3).trans rfl, (qh BK173.out 4).trans rfl⟩ (fun hHeld => ?_)
  clear hK K
  refine norm_ (a' := ?_) ?_ ?_
  rotate_left
  · show Act.put _ (some 47) _ = _
    simp only [Act.put, List.setIfInBounds_toArray, List.set_cons_zero, List.set_cons_succ, i64_w, i32_w]
    rfl
  refine pure_ (i := 26) (N := some 48) (v := ?_) (a' := ?_) #[true, true, true, true, true, true, true, true, true, true, true, true, true, true, true, true, true, true, true, true, true, true, true, true, true, true, true, false, false, false, false, false, false, false, false, false] rfl rfl (any_of HT_.out (by kernel_rfl)) (fun _ _ _ h => h) (Or.inl ⟨by rfl, ?_⟩) ?_ ?_
  rotate_left
  · intro w'
    go_simp
    with_reducible rfl
  rotate_left
  · simp only [Act.put, List.setIfInBounds_toArray, List.set_cons_zero, List.set_cons_succ, i64_w, i32_w]
    rfl
  refine pure_ (i := 27) (N := some 49) (v := ?_) (a' := ?_) #[true, true, true, true, true, true, true, true, true, true, true, true, true, true, true, true, true, true, true, true, true, true, true, true, true, true, true, true, false, false, false, false, false, false, false, false] rfl rfl (any_of HT_.out (by kernel_rfl)) (fun _ _ _ h => h) (Or.inl ⟨by rfl, ?_⟩) ?_ ?_
  rotate_left
  · intro w'
    go_simp
    with_reducible rfl
  rotate_left
  · simp only [Act.put, List.setIfInBounds_toArray, List.set_cons_zero, List.set_cons_succ, i64_w, i32_w]
    rfl
  refine pure_ (i := 28) (N := some 50) (v := ?_) (a' := ?_) #[true, true, true, true, true, true, true, true, true, true, true, true, true, true, true, true, true, true, true, true, true, true, true, true, true, true, true, true, true, false, false, false, false, false, false, false] rfl rfl (any_of HT_.out (by kernel_rfl)) (fun _ _ _ h => h) (Or.inl ⟨by rfl, ?_⟩) ?_ ?_
  rotate_left
  · intro w'
    go_simp
    with_reducible rfl
  rotate_left
  · simp only [Act.put, List.setIfInBounds_toArray, List.set_cons_zero, List.set_cons_succ, i64_w, i32_w]
    rfl
  refine pure_ (i := 29) (N := some 51) (v := ?_) (a' := ?_) #[true, true, true, true, true, true, true, true, true, true, true, true, true, true, true, true, true, true, true, true, true, true, true, true, true, true, true, true, true, true, false, false, false, false, false, false] rfl rfl (any_of HT_.out (by kernel_rfl)) (fun _ _ _ h => h) (Or.inl ⟨by rfl, ?_⟩) ?_ ?_
  rotate_left
  · intro w'
    go_simp
    with_reducible rfl
  rotate_left
  · simp only [Act.put, List.setIfInBounds_toArray, List.set_cons_zero, List.set_cons_succ, i64_w, i32_w]
    rfl
  refine pure_ (i := 30) (N := some 52) (v := ?_) (a' := ?_) #[true, true, true, true, true, true, true, true, true, true, true, true, true, true, true, true, true, true, true, true, true, true, true, true, true, true, true, true, true, true, true, false, false, false, false, false] rfl rfl (any_of HT_.out (by kernel_rfl)) (fun _ _ _ h => h) (Or.inl ⟨by rfl, ?_⟩) ?_ ?_
  rotate_left
  · intro w'
    go_simp
    with_reducible rfl
  rotate_left
  · simp only [Act.put, List.setIfInBounds_toArray, List.set_cons_zero, List.set_cons_succ, i64_w, i32_w]
    rfl
  refine take_ (i := 31) (N := some 53) (v := ?_) (a' := ?_) #[true, true, true, true, true, true, true, true, true, true, true, true, true, true, true, true, true, true, true, true, true, true, true, true, true, true, true, true, true, true, true, true, false, false, false, false] rfl rfl (take_ofW HT_.out HW_.out (by kernel_rfl)) (fun _ _ _ h => h) (Or.inl ⟨by rfl, ?_⟩) hHeld ?_ ?_
  rotate_left
  · rintro w' ⟨s0, s1, s2, s3, s4, s5, s6, s7, s8, s9, s10, s11, s12, s13, s14⟩
    go_simp
    with_reducible rfl
  rotate_left
  · simp only [Act.put, List.setIfInBounds_toArray, List.set_cons_zero, List.set_cons_succ, i64_w, i32_w]
    rfl
  refine one_ (i := 32) (N := some 54) #[true, true, true, true, true, true, true, true, true, true, true, true, true, true, true, true, true, true, true, true, true, true, true, true, true, true, true, true, true, true, true, true, true, false, false, false] rfl rfl (one_of HT_.out (by kernel_rfl)) (by decide) (fun K hK => ?_)
  refine goes_ Tryd.func38 (by kernel_rfl) rfl #[.slice Ao14 t175.length co14, .agg #[.int .i64 a1_0, .int .i64 a1_1, .string a1_2]] (by rfl) rfl rfl (by (try simp only [List.map_toArray, List.map_cons, List.map_nil]); first | done | rfl | (simp only [List.length_drop, List.length_take]; rfl)) ?_
  with_reducible refine (hearsaylaw02_fits.calls k _ _ t175 a1_0 a1_1 a1_2 t205 _ ?side1 ?side2 ?side3 A32.out).mono ?_
  (case side1 => repeat (first | exact (Kd.R_reads' HO177.out).2.2 | (with_reducible refine Kd.C_alloc ?_ _) | (with_reducible refine Kd.C_drewN ?_ _) | (with_reducible refine Kd.C_drew ?_)))
  (case side2 => exact (Kd.R_reads' HO177.out).2.1)
  (case side3 => exact Laid2.up HLD2.out (by repeat (first | (with_reducible first | exact HB.out | apply qf | apply qn | apply qe | refine qd ?_ GE173.out | refine qd ?_ GE174.out | refine qd ?_ GE186.out) | exact HB.out)))
  rintro e w42 ⟨rfl, hb⟩
  refine ⟨_, rfl, ?_⟩
  have n0_ := Aside0.mk (Kd.R_below (by (with_reducible repeat (first | apply qz | apply qx | apply qy)); exact HO177.out) hb)
  have n1_ := Aside0.mk (Kd.R_below (by (with_reducible repeat (first | apply qz | apply qx | apply qy)); exact HO185.out) hb)
  have n2_ := Aside0.mk (Kd.R_below (by (with_reducible repeat (first | apply qz | apply qx | apply qy)); exact HO194.out) hb)
  have n3_ := Aside0.mk (Kd.R_below (by (with_reducible repeat (first | apply qz | apply qx | apply qy)); exact HO202.out) hb)
  have n4_ := Aside0.mk (qw (g := gb173) (o := .cells #[.int .i64 a0_0, .int .i64 a0_1, .string a0_2, .string a0_3, .slice A0_4 l0_4.length c0_4] 26 (0, 0)) (by (with_reducible repeat (first | refine qa ?_ _ | refine qb ?_ | refine qc ?_ _)); exact BK173.out) hb)
  have n5_ := Aside0.mk (qw (g := gb174) (o := .cells #[.int .i64 a1_0, .int .i64 a1_1, .string a1_2, .string a1_3, .slice A1_4 l1_4.length c1_4] 26 (0, 0)) (by (with_reducible repeat (first | refine qa ?_ _ | refine qb ?_ | refine qc ?_ _)); exact BK174.out) hb)
  have n6_ := Aside0.mk (qw (g := gb186) (o := .cells #[.int .i64 t179, .int .i64 t180, .string t181, .string t182, .slice Ao20 t183.length co20] 26 (0, 0)) (by (with_reducible repeat (first | refine qa ?_ _ | refine qb ?_ | refine qc ?_ _)); exact BK186.out) hb)
  have n7_ := Aside0.mk (below_step (by repeat (first | (with_reducible first | exact HB.out | apply qf | apply qn | apply qe | refine qd ?_ GE173.out | refine qd ?_ GE174.out | refine qd ?_ GE186.out) | exact HB.out)) hb)
  clear HO177
  clear HO185
  clear HO194
  clear HO202
  clear BK173
  clear BK174
  clear BK186
  clear HB
  have HO177 := n0_
  have HO185 := n1_
  have HO194 := n2_
  have HO202 := n3_
  have BK173 := n4_
  have BK174 := n5_
  have BK186 := n6_
  have HB := n7_
  clear n0_ n1_ n2_ n3_ n4_ n5_ n6_ n7_
  (try clear hb)
  (try clear hb2)
  (try clear hk)
  (try clear hi)
  refine hK.out _ _ ⟨(qh BK186.out 0).trans rfl, (qh BK186.out 1).trans rfl, (qh BK186.out 2).trans rfl, (qh BK186.out 3).trans rfl, (qh BK186.out 4).trans rfl, (qh BK174.out 0).trans rfl, (qh BK174.out 1).trans rfl, (qh BK174.out 2).trans rfl, (qh BK174.out 3).trans rfl, (qh BK174.out 4).trans rfl, (qh BK173.out 0).trans rfl, (qh BK173.out 1).trans rfl, (qh BK173.out 2).trans rfl, (qh BK173.out 3).trans rfl, (qh BK173.out 4).trans rfl⟩ (fun hHeld => ?_)
  clear hK K
  refine norm_ (a' := ?_) ?_ ?_
  rotate_left
  · show Act.put _ (some 54) _ = _
    simp only [Act.put, List.setIfInBounds_toArray, List.set_cons_zero, List.set_cons_succ, i64_w, i32_w]
    rfl
  refine pure_ (i := 33) (N := some 55) (v := ?_) (a' := ?_) #[true, true, true, true, true, true, true, true, true, true, true, true, true, true, true, true, true, true, true, true, true, true, true, true, true, true, true, true, true, true, true, true, true, true, false, false] rfl rfl (any_of HT_.out (by kernel_rfl)) (fun _ _ _ h => h) (Or.inl ⟨by rfl, ?_⟩) ?_ ?_
  rotate_left
  · intro w'
    go_simp
    with_reducible rfl
  rotate_left
  · simp only [Act.put, List.setIfInBounds_toArray, List.set_cons_zero, List.set_cons_succ, i64_w, i32_w]
    rfl
  refine pure_ (i := 34) (N := some 56) (v := ?_) (a' := ?_) #[true, true, true, true, true, true, true, true, true, true, true, true, true, true, true, true, true, true, true, true, true, true, true, true, true, true, true, true, true, true, true, true, true, true, true, false] rfl rfl (any_of HT_.out (by kernel_rfl)) (fun _ _ _ h => h) (Or.inl ⟨by rfl, ?_⟩) ?_ ?_
  rotate_left
  · intro w'
    go_simp
    with_reducible rfl
  rotate_left
  · simp only [Act.put, List.setIfInBounds_toArray, List.set_cons_zero, List.set_cons_succ, i64_w, i32_w]
    rfl
  refine pure_ (i := 35) (N := some 57) (v := ?_) (a' := ?_) #[true, true, true, true, true, true, true, true, true, true, true, true, true, true, true, true, true, true, true, true, true, true, true, true, true, true, true, true, true, true, true, true, true, true, true, true] rfl rfl (any_of HT_.out (by kernel_rfl)) (fun _ _ _ h => h) (Or.inl ⟨by rfl, ?_⟩) ?_ ?_
  rotate_left
  · intro w'
    go_simp
    with_reducible rfl
  rotate_left
  · simp only [Act.put, List.setIfInBounds_toArray, List.set_cons_zero, List.set_cons_succ, i64_w, i32_w]
    rfl
  refine done_ (done_of HT_.out (by kernel_rfl)) ?_
  try go_wp2
  go_meet
  exact ⟨_, (!t205), (by first | rfl | (simp; done) | (simp [*]; done)), H', ⟨by first | omega | exact Nat.le_refl _⟩, ⟨by (with_reducible repeat (first | apply qz | apply qx | apply qy)); exact HO177.out⟩, ⟨by (with_reducible repeat (first | apply qz | apply qx | apply qy)); exact Kd.R_mono HO185.out (fun _ hk => trivial)⟩, ⟨by (with_reducible repeat (first | refine qa ?_ _ | refine qb ?_ | refine qc ?_ _)); exact BK173.out⟩, ⟨by (with_reducible repeat (first | refine qa ?_ _ | refine qb ?_ | refine qc ?_ _)); exact BK174.out⟩, ⟨by (with_reducible repeat (first | refine qa ?_ _ | refine qb ?_ | refine qc ?_ _)); exact BK186.out⟩, ⟨by repeat (first | (with_reducible first | exact HB.out | apply qf | apply qn | apply qe | refine qd ?_ GE173.out | refine qd ?_ GE174.out | refine qd ?_ GE186.out) | exact HB.out)⟩⟩
 clear HC6
 obtain ⟨kq, x57_5, rfl, HA, HJ5, HO_7, HO_187004, BK173, BK174, BK186, HB⟩ := hcut
 rcases kq with _ | kj5
 · exact absurd HA.out (by simp [hearsaylaw02_TermUnifies.j0])
 have H := HA.out
 clear HA
 simp only [hearsaylaw02_TermUnifies.j0] at H
 by_cases c69 : x57_5 = true
 ·
  subst c69
  have H1 : (some false) = some r := by rw [if_pos rfl] at H; exact H
  clear H
  have H := H1
  clear H1
  obtain rfl := Option.some.inj H
  go_wp2
  go_ret
  exact ⟨by first | rfl | (simp [errW_none, errW_some] <;> rfl) | (simp [errW_none, errW_some, bne, show ∀ l_ : List UInt8, (l_ == []) = l_.isEmpty from fun l_ => by cases l_ <;> rfl]; done) | (simp [*, errW_none, errW_some] <;> rfl), by repeat (first | (with_reducible first | exact HB.out | apply qf | apply qn | apply qe | refine qd ?_ GE173.out | refine qd ?_ GE174.out | refine qd ?_ GE186.out) | exact HB.out)⟩
 replace c69 := Bool.eq_false_iff.mpr c69
 subst c69
 have H1 : (if t178 = true then (hearsaylaw02_TermUnifies.j1 kj5 l2 t175 t178 false a0_0 a0_1 a0_2 a0_3 l0_4 a1_0 a1_1 a1_2 a1_3 l1_4 t179 t180 t181 t182 t183) else (hearsaylaw02_TermUnifies.j1 kj5 l2 t175 t178 ((t175.length : Int) != 0) a0_0 a0_1 a0_2 a0_3 l0_4 a1_0 a1_1 a1_2 a1_3 l1_4 t179 t180 t181 t182 t183)) = some r := by rw [if_neg (show ¬ (false = true) by decide)] at H; exact H
 clear H
 have H := H1
 clear H1
 have HC70 := Aside0.mk H
 clear H
 go_upto_region 5 with (fail)
 go_cut [64] (fun v64 wc => ∃ (kq : Nat) (x64_69 : Bool), v64 = .bool x64_69 ∧ Aside0 (hearsaylaw02_TermUnifies.j1 kq l2 t175 t178 x64_69 a0_0 a0_1 a0_2 a0_3 l0_4 a1_0 a1_1 a1_2 a1_3 l1_4 t179 t180 t181 t182 t183 = some r) ∧ Aside0 (kq ≤ kj5) ∧ Aside0 (Kd.R k44 44 wc w.heap.size (fun _ => True) (.slice Ao14 t175.length co14) t175) ∧ Aside0 (Kd.R k23 23 wc w.heap.size (fun _ => True) (.slice Ao20 t183.length co20) t183) ∧ Aside0 (wc.heap[gb173]? = some (.cells #[.int .i64 a0_0, .int .i64 a0_1, .string a0_2, .string a0_3, (.slice A0_4 l0_4.length c0_4)] 26 (0, 0))) ∧ Aside0 (wc.heap[gb174]? = some (.cells #[.int .i64 a1_0, .int .i64 a1_1, .string a1_2, .string a1_3, (.slice A1_4 l1_4.length c1_4)] 26 (0, 0))) ∧ Aside0 (wc.heap[gb186]? = some (.cells #[.int .i64 t179, .int .i64 t180, .string t181, .string t182, (.slice Ao20 t183.length co20)] 26 (0, 0))) ∧ Aside0 (Below w.heap.size w wc))
 case first =>
  have H := HC70.out
  clear HC70
  by_cases c71 : t178 = true
  ·
   subst c71
   have H1 : (hearsaylaw02_TermUnifies.j1 kj5 l2 t175 true false a0_0 a0_1 a0_2 a0_3 l0_4 a1_0 a1_1 a1_2 a1_3 l1_4 t179 t180 t181 t182 t183) = some r := by rw [if_pos rfl] at H; exact H
   clear H
   have H := H1
   clear H1
   have H' := Aside0.mk H
   clear H
   go_wp2
   go_meet
   exact ⟨_, (false), (by first | rfl | (simp; done) | (simp [*]; done)), H', ⟨by have := HJ5.out; first | omega | exact Nat.le_refl _⟩, ⟨by (with_reducible repeat (first | apply qz | apply qx | apply qy)); exact HO_7.out⟩, ⟨by (with_reducible repeat (first | apply qz | apply qx | apply qy)); exact HO_187004.out⟩, ⟨by (with_reducible repeat (first | refine qa ?_ _ | refine qb ?_ | refine qc ?_ _)); exact BK173.out⟩, ⟨by (with_reducible repeat (first | refine qa ?_ _ | refine qb ?_ | refine qc ?_ _)); exact BK174.out⟩, ⟨by (with_reducible repeat (first | refine qa ?_ _ | refine qb ?_ | refine qc ?_ _)); exact BK186.out⟩, ⟨by repeat (first | (with_reducible first | exact HB.out | apply qf | apply qn | apply qe | refine qd ?_ GE173.out | refine qd ?_ GE174.out | refine qd ?_ GE186.out) | exact HB.out)⟩⟩
  replace c71 := Bool.eq_false_iff.mpr c71
  subst c71
  have H1 : (hearsaylaw02_TermUnifies.j1 kj5 l2 t175 false ((t175.length : Int) != 0) a0_0 a0_1 a0_2 a0_3 l0_4 a1_0 a1_1 a1_2 a1_3 l1_4 t179 t180 t181 t182 t183) = some r := by rw [if_neg (show ¬ (false = true) by decide)] at H; exact H
  clear H
  have H := H1
  clear H1
  have H' := Aside0.mk H
  clear H
  go_wp2
  go_meet
  exact ⟨_, (((t175.length : Int) != 0)), (by first | rfl | (simp; done) | (simp [*]; done)), H', ⟨by have := HJ5.out; first | omega | exact Nat.le_refl _⟩, ⟨by (with_reducible repeat (first | apply qz | apply qx | apply qy)); exact HO_7.out⟩, ⟨by (with_reducible repeat (first | apply qz | apply qx | apply qy)); exact HO_187004.out⟩, ⟨by (with_reducible repeat (first | refine qa ?_ _ | refine qb ?_ | refine qc ?_ _)); exact BK173.out⟩, ⟨by (with_reducible repeat (first | refine qa ?_ _ | refine qb ?_ | refine qc ?_ _)); exact BK174.out⟩, ⟨by (with_reducible repeat (first | refine qa ?_ _ | refine qb ?_ | refine qc ?_ _)); exact BK186.out⟩, ⟨by repeat (first | (with_reducible first | exact HB.out | apply qf | apply qn | apply qe | refine qd ?_ GE173.out | refine qd ?_ GE174.out | refine qd ?_ GE186.out) | exact HB.out)⟩⟩
 clear HC70
 obtain ⟨kq, x64_69, rfl, HA, HJ69, HO_7, HO_187004, BK173, BK174, BK186, HB⟩ := hcut
 rcases kq with _ | kj69
 · exact absurd HA.out (by simp [hearsaylaw02_TermUnifies.j1])
 have H := HA.out
 clear HA
 simp only [hearsaylaw02_TermUnifies.j1] at H
 by_cases c72 : x64_69 = true
 ·
  subst c72
  have H1 : (some false) = some r := by rw [if_pos rfl] at H; exact H
  clear H
  have H := H1
  clear H1
  obtain rfl := Option.some.inj H
  go_wp2
  go_ret
  exact ⟨by first | rfl | (simp [errW_none, errW_some] <;> rfl) | (simp [errW_none, errW_some, bne, show ∀ l_ : List UInt8, (l_ == []) = l_.isEmpty from fun l_ => by cases l_ <;> rfl]; done) | (simp [*, errW_none, errW_some] <;> rfl), by repeat (first | (with_reducible first | exact HB.out | apply qf | apply qn | apply qe | refine qd ?_ GE173.out | refine qd ?_ GE174.out | refine qd ?_ GE186.out) | exact HB.out)⟩
 replace c72 := Bool.eq_false_iff.mpr c72
 subst c72
 have H1 : ((term_Apply.f kj69 l2 a0_0 a0_1 a0_2 a0_3 l0_4).bind fun bt206 => ((term_Apply.f kj69 l2 a1_0 a1_1 a1_2 a1_3 l1_4).bind fun bt214 => ((hearsaylaw02_same.f kj69 bt206.1 bt206.2.1 bt206.2.2.1 bt206.2.2.2.1 bt206.2.2.2.2 bt214.1 bt214.2.1 bt214.2.2.1 bt214.2.2.2.1 bt214.2.2.2.2).bind fun t221 => (if t221 = true then ((hearsaylaw02_fits.f kj69 l2 a0_0 a0_1 a0_2).bind fun t222 => (if t222 = true then ((hearsaylaw02_fits.f kj69 l2 a1_0 a1_1 a1_2).bind fun t223 => (hearsaylaw02_TermUnifies.j2 kj69 l2 t175 t178 t223 a0_0 a0_1 a0_2 a0_3 l0_4 a1_0 a1_1 a1_2 a1_3 l1_4 t179 t180 t181 t182 t183 bt206.1 bt206.2.1 bt206.2.2.1 bt206.2.2.2.1 bt206.2.2.2.2)) else (hearsaylaw02_TermUnifies.j2 kj69 l2 t175 t178 false a0_0 a0_1 a0_2 a0_3 l0_4 a1_0 a1_1 a1_2 a1_3 l1_4 t179 t180 t181 t182 t183 bt206.1 bt206.2.1 bt206.2.2.1 bt206.2.2.2.1 bt206.2.2.2.2))) else (hearsaylaw02_TermUnifies.j2 kj69 l2 t175 t178 false a0_0 a0_1 a0_2 a0_3 l0_4 a1_0 a1_1 a1_2 a1_3 l1_4 t179 t180 t181 t182 t183 bt206.1 bt206.2.1 bt206.2.2.1 bt206.2.2.2.1 bt206.2.2.2.2))))) = some r := by rw [if_neg (show ¬ (false = true) by decide)] at H; exact H
 clear H
 have H := H1
 clear H1
 replace H := Option.bind_eq_some_iff.mp H
 obtain ⟨⟨t206, t207, t208, t209, t210⟩, A730, H⟩ := H
 replace H : ((term_Apply.f kj69 l2 a1_0 a1_1 a1_2 a1_3 l1_4).bind fun bt214 => ((hearsaylaw02_same.f kj69 t206 t207 t208 t209 t210 bt214.1 bt214.2.1 bt214.2.2.1 bt214.2.2.2.1 bt214.2.2.2.2).bind fun t221 => (if t221 = true then ((hearsaylaw02_fits.f kj69 l2 a0_0 a0_1 a0_2).bind fun t222 => (if t222 = true then ((hearsaylaw02_fits.f kj69 l2 a1_0 a1_1 a1_2).bind fun t223 => (hearsaylaw02_TermUnifies.j2 kj69 l2 t175 t178 t223 a0_0 a0_1 a0_2 a0_3 l0_4 a1_0 a1_1 a1_2 a1_3 l1_4 t179 t180 t181 t182 t183 t206 t207 t208 t209 t210)) else (hearsaylaw02_TermUnifies.j2 kj69 l2 t175 t178 false a0_0 a0_1 a0_2 a0_3 l0_4 a1_0 a1_1 a1_2 a1_3 l1_4 t179 t180 t181 t182 t183 t206 t207 t208 t209 t210))) else (hearsaylaw02_TermUnifies.j2 kj69 l2 t175 t178 false a0_0 a0_1 a0_2 a0_3 l0_4 a1_0 a1_1 a1_2 a1_3 l1_4 t179 t180 t181 t182 t183 t206 t207 t208 t209 t210)))) = some r := H
 have A73 := Aside0.mk A730
 clear A730
 have HC74 := Aside0.mk H
 clear H
 have hnb75 := NB173_174.out
 have hnc75 := NB174_173.out
 have hnb76 := NB173_186.out
 have hnc76 := NB186_173.out
 have hcz77_0 : wc.cell? ⟨gb173, 0, none⟩ = some (.int .i64 a0_0) := (qh BK173.out 0).trans rfl
 have hcz77_1 : wc.cell? ⟨gb173, 1, none⟩ = some (.int .i64 a0_1) := (qh BK173.out 1).trans rfl
 have hcz77_2 : wc.cell? ⟨gb173, 2, none⟩ = some (.string a0_2) := (qh BK173.out 2).trans rfl
 have hcz77_3 : wc.cell? ⟨gb173, 3, none⟩ = some (.string a0_3) := (qh BK173.out 3).trans rfl
 have hcz77_4 : wc.cell? ⟨gb173, 4, none⟩ = some (.slice A0_4 l0_4.length c0_4) := (qh BK173.out 4).trans rfl
 have hfz77_0 := qg BK173.out 0
 have hfz77_1 := qg BK173.out 1
 have hfz77_2 := qg BK173.out 2
 have hfz77_3 := qg BK173.out 3
 have hfz77_4 := qg BK173.out 4
 go_upto_region 8 with (first | ((with_reducible refine gate_callee (f := 23) rfl ?_); refine goesL_ (some 67) rfl rfl Tryd.func23 (by kernel_rfl) rfl #[.slice A2 l2.length c2, .agg #[.int .i64 a0_0, .int .i64 a0_1, .string a0_2, .string a0_3, .slice A0_4 l0_4.length c0_4]] rfl (by (try simp only [List.map_toArray, List.map_cons, List.map_nil]); first | done | rfl | (simp only [List.length_drop, List.length_take]; rfl)) ?_; (with_reducible refine (term_Apply.calls kj69 _ _ l2 a0_0 a0_1 a0_2 a0_3 _ _ l0_4 t206 t207 t208 t209 t210 _ ?side1 ?side2 ?side3 ?side4 ?side5 A73.out).mono ?_); (case side1 => repeat (first | exact (Kd.C_below HR2.out HB.out) | (with_reducible refine Kd.C_alloc ?_ _) | (with_reducible refine Kd.C_drewN ?_ _) | (with_reducible refine Kd.C_drew ?_))); (case side2 => exact HC2.out); (case side3 => repeat (first | exact (Kd.C_below HR0_4.out HB.out) | (with_reducible refine Kd.C_alloc ?_ _) | (with_reducible refine Kd.C_drewN ?_ _) | (with_reducible refine Kd.C_drew ?_))); (case side4 => exact HC0_4.out); (case side5 => exact Laid2.up HLD2.out (by repeat (first | (with_reducible first | exact HB.out | apply qf | apply qn | apply qe | refine qd ?_ GE173.out | refine qd ?_ GE174.out | refine qd ?_ GE186.out) | exact HB.out))); rintro e w78 ⟨v211, rfl, ho0, hb⟩; refine ⟨_, rfl, ?_⟩; have n0_ := Aside0.mk (Kd.R_below (by (with_reducible repeat (first | apply qz | apply qx | apply qy)); exact HO_7.out) hb); have n1_ := Aside0.mk (Kd.R_elder' (by (with_reducible repeat (first | apply qz | apply qx | apply qy)); exact HO_187004.out) (Kd.R_base ho0) hb); have n2_ := Aside0.mk (Kd.R_lower (Kd.R_new' ho0 (Kd.R_lt (by (with_reducible repeat (first | apply qz | apply qx | apply qy)); exact HO_187004.out))) (below_size (by repeat (first | (with_reducible first | exact HB.out | apply qf | apply qn | apply qe | refine qd ?_ GE173.out | refine qd ?_ GE174.out | refine qd ?_ GE186.out) | exact HB.out)))); have n3_ := Aside0.mk (qw (g := gb173) (o := .cells #[.int .i64 a0_0, .int .i64 a0_1, .string a0_2, .string a0_3, .slice A0_4 l0_4.length c0_4] 26 (0, 0)) (by (with_reducible repeat (first | refine qa ?_ _ | refine qb ?_ | refine qc ?_ _)); exact BK173.out) hb); have n4_ := Aside0.mk (qw (g := gb174) (o := .cells #[.int .i64 a1_0, .int .i64 a1_1, .string a1_2, .string a1_3, .slice A1_4 l1_4.length c1_4] 26 (0, 0)) (by (with_reducible repeat (first | refine qa ?_ _ | refine qb ?_ | refine qc ?_ _)); exact BK174.out) hb); have n5_ := Aside0.mk (qw (g := gb186) (o := .cells #[.int .i64 t179, .int .i64 t180, .string t181, .string t182, .slice Ao20 t183.length co20] 26 (0, 0)) (by (with_reducible repeat (first | refine qa ?_ _ | refine qb ?_ | refine qc ?_ _)); exact BK186.out) hb); have n6_ := Aside0.mk (below_step (by repeat (first | (with_reducible first | exact HB.out | apply qf | apply qn | apply qe | refine qd ?_ GE173.out | refine qd ?_ GE174.out | refine qd ?_ GE186.out) | exact HB.out)) hb); clear HO_7; clear HO_187004; clear BK173; clear BK174; clear BK186; clear HB; have HO_7 := n0_; have HO_187004 := n1_; have HO212 := n2_; have BK173 := n3_; have BK174 := n4_; have BK186 := n5_; have HB := n6_; clear n0_ n1_ n2_ n3_ n4_ n5_ n6_; (try clear hb); (try clear hb2); (try clear hk); (try clear hi); (try clear ho0)) | ((with_reducible refine gate_dst (N := 10) rfl ?_); (try (refine gate_guard (by rfl) ?_; dsimp only)); refine box_event ?hg (N := 10) ?hd (cs := #[.int .i64 0, .int .i64 0, .string (⟨#[]⟩ : ByteArray), .string (⟨#[]⟩ : ByteArray), .slice none 0 0]) (t := 26) ?hr ?_; (case hd => rfl); (case hg => rfl); (case hr => first | (go_simp; done) | (go_simp; rfl)); intro gb213 hg w79 hbox hb; have n0_ := Aside0.mk (Kd.R_below (by (with_reducible repeat (first | apply qz | apply qx | apply qy)); exact HO_7.out) hb); have n1_ := Aside0.mk (Kd.R_below (by (with_reducible repeat (first | apply qz | apply qx | apply qy)); exact HO_187004.out) hb); have n2_ := Aside0.mk (Kd.R_below (by (with_reducible repeat (first | apply qz | apply qx | apply qy)); exact HO212.out) hb); have n3_ := Aside0.mk (qw (g := gb173) (o := .cells #[.int .i64 a0_0, .int .i64 a0_1, .string a0_2, .string a0_3, .slice A0_4 l0_4.length c0_4] 26 (0, 0)) (by (with_reducible repeat (first | refine qa ?_ _ | refine qb ?_ | refine qc ?_ _)); exact BK173.out) hb); have n4_ := Aside0.mk (qw (g := gb174) (o := .cells #[.int .i64 a1_0, .int .i64 a1_1, .string a1_2, .string a1_3, .slice A1_4 l1_4.length c1_4] 26 (0, 0)) (by (with_reducible repeat (first | refine qa ?_ _ | refine qb ?_ | refine qc ?_ _)); exact BK174.out) hb); have n5_ := Aside0.mk (qw (g := gb186) (o := .cells #[.int .i64 t179, .int .i64 t180, .string t181, .string t182, .slice Ao20 t183.length co20] 26 (0, 0)) (by (with_reducible repeat (first | refine qa ?_ _ | refine qb ?_ | refine qc ?_ _)); exact BK186.out) hb); have n6_ := Aside0.mk (below_step (by repeat (first | (with_reducible first | exact HB.out | apply qf | apply qn | apply qe | refine qd ?_ GE173.out | refine qd ?_ GE174.out | refine qd ?_ GE186.out) | exact HB.out)) hb); have n7_ := Aside0.mk (hbox); have n8_ := Aside0.mk ((by rw [hg]; exact (below_size (by repeat (first | (with_reducible first | exact HB.out | apply qf | apply qn | apply qe | refine qd ?_ GE173.out | refine qd ?_ GE174.out | refine qd ?_ GE186.out) | exact HB.out))) : w.heap.size ≤ gb213)); have n9_ := Aside0.mk ((by rw [hg]; exact (below_size (by repeat (first | (with_reducible first | exact HB.out | apply qf | apply qn | apply qe | refine qd ?_ GE173.out | refine qd ?_ GE174.out | refine qd ?_ GE186.out) | exact HB.out))) : w.heap.size ≤ gb213)); have n10_ := Aside0.mk ((by rw [hg]; exact Nat.ne_of_lt (blk_lt (g := gb173) (o := .cells #[.int .i64 a0_0, .int .i64 a0_1, .string a0_2, .string a0_3, .slice A0_4 l0_4.length c0_4] 26 (0, 0)) (by (with_reducible repeat (first | refine qa ?_ _ | refine qb ?_ | refine qc ?_ _)); exact BK173.out)) : gb173 ≠ gb213)); have n11_ := Aside0.mk ((by rw [hg]; exact Nat.ne_of_gt (blk_lt (g := gb173) (o := .cells #[.int .i64 a0_0, .int .i64 a0_1, .string a0_2, .string a0_3, .slice A0_4 l0_4.length c0_4] 26 (0, 0)) (by (with_reducible repeat (first | refine qa ?_ _ | refine qb ?_ | refine qc ?_ _)); exact BK173.out)) : gb213 ≠ gb173)); have n12_ := Aside0.mk ((by rw [hg]; exact Nat.ne_of_lt (blk_lt (g := gb174) (o := .cells #[.int .i64 a1_0, .int .i64 a1_1, .string a1_2, .string a1_3, .slice A1_4 l1_4.length c1_4] 26 (0, 0)) (by (with_reducible repeat (first | refine qa ?_ _ | refine qb ?_ | refine qc ?_ _)); exact BK174.out)) : gb174 ≠ gb213)); have n13_ := Aside0.mk ((by rw [hg]; exact Nat.ne_of_gt (blk_lt (g := gb174) (o := .cells #[.int .i64 a1_0, .int .i64 a1_1, .string a1_2, .string a1_3, .slice A1_4 l1_4.length c1_4] 26 (0, 0)) (by (with_reducible repeat (first | refine qa ?_ _ | refine qb ?_ | refine qc ?_ _)); exact BK174.out)) : gb213 ≠ gb174)); have n14_ := Aside0.mk ((by rw [hg]; exact Nat.ne_of_lt (blk_lt (g := gb186) (o := .cells #[.int .i64 t179, .int .i64 t180, .string t181, .string t182, .slice Ao20 t183.length co20] 26 (0, 0)) (by (with_reducible repeat (first | refine qa ?_ _ | refine qb ?_ | refine qc ?_ _)); exact BK186.out)) : gb186 ≠ gb213)); have n15_ := Aside0.mk ((by rw [hg]; exact Nat.ne_of_gt (blk_lt (g := gb186) (o := .cells #[.int .i64 t179, .int .i64 t180, .string t181, .string t182, .slice Ao20 t183.length co20] 26 (0, 0)) (by (with_reducible repeat (first | refine qa ?_ _ | refine qb ?_ | refine qc ?_ _)); exact BK186.out)) : gb213 ≠ gb186)); clear HO_7; clear HO_187004; clear HO212; clear BK173; clear BK174; clear BK186; clear HB; have HO_7 := n0_; have HO_187004 := n1_; have HO212 := n2_; have BK173 := n3_; have BK174 := n4_; have BK186 := n5_; have HB := n6_; have BK213 := n7_; have GW213 := n8_; have GE213 := n9_; have NB173_213 := n10_; have NB213_173 := n11_; have NB174_213 := n12_; have NB213_174 := n13_; have NB186_213 := n14_; have NB213_186 := n15_; clear n0_ n1_ n2_ n3_ n4_ n5_ n6_ n7_ n8_ n9_ n10_ n11_ n12_ n13_ n14_ n15_; clear hb hbox hg; have hnb80 := NB213_173.out; have hnc80 := NB173_213.out; have hnb81 := NB213_174.out; have hnc81 := NB174_213.out; have hnb82 := NB213_186.out; have hnc82 := NB186_213.out; have hcz83_0 : w79.cell? ⟨gb213, 0, none⟩ = some (.int .i64 0) := (qh BK213.out 0).trans rfl; have hcz83_1 : w79.cell? ⟨gb213, 1, none⟩ = some (.int .i64 0) := (qh BK213.out 1).trans rfl; have hcz83_2 : w79.cell? ⟨gb213, 2, none⟩ = some (.string (⟨#[]⟩ : ByteArray)) := (qh BK213.out 2).trans rfl; have hcz83_3 : w79.cell? ⟨gb213, 3, none⟩ = some (.string (⟨#[]⟩ : ByteArray)) := (qh BK213.out 3).trans rfl; have hcz83_4 : w79.cell? ⟨gb213, 4, none⟩ = some (.slice none 0 0) := (qh BK213.out 4).trans rfl; have hfz83_0 := qg BK213.out 0; have hfz83_1 := qg BK213.out 1; have hfz83_2 := qg BK213.out 2; have hfz83_3 := qg BK213.out 3; have hfz83_4 := qg BK213.out 4; obtain ⟨Ao84, co84, eo84⟩ := Kd.R_slice HO212.out; subst eo84))
 (try simp only [Act.put, List.setIfInBounds_toArray, List.set_cons_zero, List.set_cons_succ])
 go_cut [84] (fun v84 wc => ∃ (kq : Nat) (x84_73 : Bool), v84 = .bool x84_73 ∧ Aside0 (hearsaylaw02_TermUnifies.j2 kq l2 t175 t178 x84_73 a0_0 a0_1 a0_2 a0_3 l0_4 a1_0 a1_1 a1_2 a1_3 l1_4 t179 t180 t181 t182 t183 t206 t207 t208 t209 t210 = some r) ∧ Aside0 (kq ≤ kj69) ∧ Aside0 (Kd.R k44 44 wc w.heap.size (fun _ => True) (.slice Ao14 t175.length co14) t175) ∧ Aside0 (Kd.R k23 23 wc w.heap.size (fun k_ => some k_ ≠ ((.slice Ao84 t210.length co84) : Value).ownBlock) (.slice Ao20 t183.length co20) t183) ∧ Aside0 (Kd.R k23 23 wc w.heap.size (fun k_ => some k_ ≠ ((.slice Ao20 t183.length co20) : Value).ownBlock) (.slice Ao84 t210.length co84) t210) ∧ Aside0 (wc.heap[gb173]? = some (.cells #[.int .i64 a0_0, .int .i64 a0_1, .string a0_2, .string a0_3, (.slice A0_4 l0_4.length c0_4)] 26 (0, 0))) ∧ Aside0 (wc.heap[gb174]? = some (.cells #[.int .i64 a1_0, .int .i64 a1_1, .string a1_2, .string a1_3, (.slice A1_4 l1_4.length c1_4)] 26 (0, 0))) ∧ Aside0 (wc.heap[gb186]? = some (.cells #[.int .i64 t179, .int .i64 t180, .string t181, .string t182, (.slice Ao20 t183.length co20)] 26 (0, 0))) ∧ Aside0 (wc.heap[gb213]? = some (.cells #[.int .i64 t206, .int .i64 t207, .string t208, .string t209, (.slice Ao84 t210.length co84)] 26 (0, 0))) ∧ Aside0 (Below w.heap.size w wc))
 case first =>
  have H := HC74.out
  clear HC74
  replace H := Option.bind_eq_some_iff.mp H
  obtain ⟨⟨t214, t215, t216, t217, t218⟩, A850, H⟩ := H
  replace H : ((hearsaylaw02_same.f kj69 t206 t207 t208 t209 t210 t214 t215 t216 t217 t218).bind fun t221 => (if t221 = true then ((hearsaylaw02_fits.f kj69 l2 a0_0 a0_1 a0_2).bind fun t222 => (if t222 = true then ((hearsaylaw02_fits.f kj69 l2 a1_0 a1_1 a1_2).bind fun t223 => (hearsaylaw02_TermUnifies.j2 kj69 l2 t175 t178 t223 a0_0 a0_1 a0_2 a0_3 l0_4 a1_0 a1_1 a1_2 a1_3 l1_4 t179 t180 t181 t182 t183 t206 t207 t208 t209 t210)) else (hearsaylaw02_TermUnifies.j2 kj69 l2 t175 t178 false a0_0 a0_1 a0_2 a0_3 l0_4 a1_0 a1_1 a1_2 a1_3 l1_4 t179 t180 t181 t182 t183 t206 t207 t208 t209 t210))) else (hearsaylaw02_TermUnifies.j2 kj69 l2 t175 t178 false a0_0 a0_1 a0_2 a0_3 l0_4 a1_0 a1_1 a1_2 a1_3 l1_4 t179 t180 t181 t182 t183 t206 t207 t208 t209 t210))) = some r := H
  have A85 := Aside0.mk A850
  clear A850
  replace H := Option.bind_eq_some_iff.mp H
  obtain ⟨t221, A860, H⟩ := H
  replace H : (if t221 = true then ((hearsaylaw02_fits.f kj69 l2 a0_0 a0_1 a0_2).bind fun t222 => (if t222 = true then ((hearsaylaw02_fits.f kj69 l2 a1_0 a1_1 a1_2).bind fun t223 => (hearsaylaw02_TermUnifies.j2 kj69 l2 t175 t178 t223 a0_0 a0_1 a0_2 a0_3 l0_4 a1_0 a1_1 a1_2 a1_3 l1_4 t179 t180 t181 t182 t183 t206 t207 t208 t209 t210)) else (hearsaylaw02_TermUnifies.j2 kj69 l2 t175 t178 false a0_0 a0_1 a0_2 a0_3 l0_4 a1_0 a1_1 a1_2 a1_3 l1_4 t179 t180 t181 t182 t183 t206 t207 t208 t209 t210))) else (hearsaylaw02_TermUnifies.j2 kj69 l2 t175 t178 false a0_0 a0_1 a0_2 a0_3 l0_4 a1_0 a1_1 a1_2 a1_3 l1_4 t179 t180 t181 t182 t183 t206 t207 t208 t209 t210)) = some r := H
  have A86 := Aside0.mk A860
  clear A860
  by_cases c87 : t221 = true
  rotate_left
  ·
   replace c87 := Bool.eq_false_iff.mpr c87
   subst c87
   have H1 : (hearsaylaw02_TermUnifies.j2 kj69 l2 t175 t178 false a0_0 a0_1 a0_2 a0_3 l0_4 a1_0 a1_1 a1_2 a1_3 l1_4 t179 t180 t181 t182 t183 t206 t207 t208 t209 t210) = some r := by rw [if_neg (show ¬ (false = true) by decide)] at H; exact H
   clear H
   have H := H1
   clear H1
   have H' := Aside0.mk H
   clear H
   try go_wp2
   have n0_ : Aside0 (Kd.R k44 44 (((((w79.setCell ⟨gb213, 0, none⟩ (.int .i64 t206)).setCell ⟨gb213, 1, none⟩ (.int .i64 t207)).setCell ⟨gb213, 2, none⟩ (.string t208)).setCell ⟨gb213, 3, none⟩ (.string t209)).setCell ⟨gb213, 4, none⟩ (.slice Ao84 t210.length co84)) w.heap.size (fun _ => True) (.slice Ao14 t175.length co14) t175) := ⟨by (with_reducible repeat (first | apply qz | apply qx | apply qy)); exact Kd.R_mono (Kd.R_far (p := ⟨gb213, 4, none⟩) (Kd.R_far (p := ⟨gb213, 3, none⟩) (Kd.R_far (p := ⟨gb213, 2, none⟩) (Kd.R_far (p := ⟨gb213, 1, none⟩) (Kd.R_far (p := ⟨gb213, 0, none⟩) (Kd.R_types HO_7.out BK213.out (by decide)) (fun _ hk => hk.2) (.int .i64 t206)) (fun _ hk => hk.2) (.int .i64 t207)) (fun _ hk => hk.2) (.string t208)) (fun _ hk => hk.2) (.string t209)) (fun _ hk => hk.2) (.slice Ao84 t210.length co84)) (fun _ hk => trivial)⟩
   have n1_ : Aside0 (Kd.R k23 23 (((((w79.setCell ⟨gb213, 0, none⟩ (.int .i64 t206)).setCell ⟨gb213, 1, none⟩ (.int .i64 t207)).setCell ⟨gb213, 2, none⟩ (.string t208)).setCell ⟨gb213, 3, none⟩ (.string t209)).setCell ⟨gb213, 4, none⟩ (.slice Ao84 t210.length co84)) w.heap.size (fun k_ => some k_ ≠ (.slice Ao84 t210.length co84 : Value).ownBlock) (.slice Ao20 t183.length co20) t183) := ⟨by (with_reducible repeat (first | apply qz | apply qx | apply qy)); exact Kd.R_mono (Kd.R_far (p := ⟨gb213, 4, none⟩) (Kd.R_far (p := ⟨gb213, 3, none⟩) (Kd.R_far (p := ⟨gb213, 2, none⟩) (Kd.R_far (p := ⟨gb213, 1, none⟩) (Kd.R_far (p := ⟨gb213, 0, none⟩) (Kd.R_types HO_187004.out BK213.out (by decide)) (fun _ hk => hk.2) (.int .i64 t206)) (fun _ hk => hk.2) (.int .i64 t207)) (fun _ hk => hk.2) (.string t208)) (fun _ hk => hk.2) (.string t209)) (fun _ hk => hk.2) (.slice Ao84 t210.length co84)) (fun _ hk => hk.1.2)⟩
   have n2_ : Aside0 (Kd.R k23 23 (((((w79.setCell ⟨gb213, 0, none⟩ (.int .i64 t206)).setCell ⟨gb213, 1, none⟩ (.int .i64 t207)).setCell ⟨gb213, 2, none⟩ (.string t208)).setCell ⟨gb213, 3, none⟩ (.string t209)).setCell ⟨gb213, 4, none⟩ (.slice Ao84 t210.length co84)) w.heap.size (fun k_ => some k_ ≠ (.slice Ao20 t183.length co20 : Value).ownBlock) (.slice Ao84 t210.length co84) t210) := ⟨by (with_reducible repeat (first | apply qz | apply qx | apply qy)); exact Kd.R_mono (Kd.R_far (p := ⟨gb213, 4, none⟩) (Kd.R_far (p := ⟨gb213, 3, none⟩) (Kd.R_far (p := ⟨gb213, 2, none⟩) (Kd.R_far (p := ⟨gb213, 1, none⟩) (Kd.R_far (p := ⟨gb213, 0, none⟩) (Kd.R_types HO212.out BK213.out (by decide)) (fun _ hk => hk.2) (.int .i64 t206)) (fun _ hk => hk.2) (.int .i64 t207)) (fun _ hk => hk.2) (.string t208)) (fun _ hk => hk.2) (.string t209)) (fun _ hk => hk.2) (.slice Ao84 t210.length co84)) (fun _ hk => hk.1.2)⟩
   have n3_ : Aside0 ((((((w79.setCell ⟨gb213, 0, none⟩ (.int .i64 t206)).setCell ⟨gb213, 1, none⟩ (.int .i64 t207)).setCell ⟨gb213, 2, none⟩ (.string t208)).setCell ⟨gb213, 3, none⟩ (.string t209)).setCell ⟨gb213, 4, none⟩ (.slice Ao84 t210.length co84)).heap[gb173]? = some (.cells #[.int .i64 a0_0, .int .i64 a0_1, .string a0_2, .string a0_3, .slice A0_4 l0_4.length c0_4] 26 (0, 0))) := ⟨by (with_reducible repeat (first | refine qa ?_ _ | refine qb ?_ | refine qc ?_ _)); refine blk_far ?_ NB173_213.out _; (with_reducible repeat (first | refine qa ?_ _ | refine qb ?_ | refine qc ?_ _)); refine blk_far ?_ NB173_213.out _; (with_reducible repeat (first | refine qa ?_ _ | refine qb ?_ | refine qc ?_ _)); refine blk_far ?_ NB173_213.out _; (with_reducible repeat (first | refine qa ?_ _ | refine qb ?_ | refine qc ?_ _)); refine blk_far ?_ NB173_213.out _; (with_reducible repeat (first | refine qa ?_ _ | refine qb ?_ | refine qc ?_ _)); refine blk_far ?_ NB173_213.out _; (with_reducible repeat (first | refine qa ?_ _ | refine qb ?_ | refine qc ?_ _)); exact BK173.out⟩
   have n4_ : Aside0 ((((((w79.setCell ⟨gb213, 0, none⟩ (.int .i64 t206)).setCell ⟨gb213, 1, none⟩ (.int .i64 t207)).setCell ⟨gb213, 2, none⟩ (.string t208)).setCell ⟨gb213, 3, none⟩ (.string t209)).setCell ⟨gb213, 4, none⟩ (.slice Ao84 t210.length co84)).heap[gb174]? = some (.cells #[.int .i64 a1_0, .int .i64 a1_1, .string a1_2, .string a1_3, .slice A1_4 l1_4.length c1_4] 26 (0, 0))) := ⟨by (with_reducible repeat (first | refine qa ?_ _ | refine qb ?_ | refine qc ?_ _)); refine blk_far ?_ NB174_213.out _; (with_reducible repeat (first | refine qa ?_ _ | refine qb ?_ | refine qc ?_ _)); refine blk_far ?_ NB174_213.out _; (with_reducible repeat (first | refine qa ?_ _ | refine qb ?_ | refine qc ?_ _)); refine blk_far ?_ NB174_213.out _; (with_reducible repeat (first | refine qa ?_ _ | refine qb ?_ | refine qc ?_ _)); refine blk_far ?_ NB174_213.out _; (with_reducible repeat (first | refine qa ?_ _ | refine qb ?_ | refine qc ?_ _)); refine blk_far ?_ NB174_213.out _; (with_reducible repeat (first | refine qa ?_ _ | refine qb ?_ | refine qc ?_ _)); exact BK174.out⟩
   have n5_ : Aside0 ((((((w79.setCell ⟨gb213, 0, none⟩ (.int .i64 t206)).setCell ⟨gb213, 1, none⟩ (.int .i64 t207)).setCell ⟨gb213, 2, none⟩ (.string t208)).setCell ⟨gb213, 3, none⟩ (.string t209)).setCell ⟨gb213, 4, none⟩ (.slice Ao84 t210.length co84)).heap[gb186]? = some (.cells #[.int .i64 t179, .int .i64 t180, .string t181, .string t182, .slice Ao20 t183.length co20] 26 (0, 0))) := ⟨by (with_reducible repeat (first | refine qa ?_ _ | refine qb ?_ | refine qc ?_ _)); refine blk_far ?_ NB186_213.out _; (with_reducible repeat (first | refine qa ?_ _ | refine qb ?_ | refine qc ?_ _)); refine blk_far ?_ NB186_213.out _; (with_reducible repeat (first | refine qa ?_ _ | refine qb ?_ | refine qc ?_ _)); refine blk_far ?_ NB186_213.out _; (with_reducible repeat (first | refine qa ?_ _ | refine qb ?_ | refine qc ?_ _)); refine blk_far ?_ NB186_213.out _; (with_reducible repeat (first | refine qa ?_ _ | refine qb ?_ | refine qc ?_ _)); refine blk_far ?_ NB186_213.out _; (with_reducible repeat (first | refine qa ?_ _ | refine qb ?_ | refine qc ?_ _)); exact BK186.out⟩
   have n6_ : Aside0 ((((((w79.setCell ⟨gb213, 0, none⟩ (.int .i64 t206)).setCell ⟨gb213, 1, none⟩ (.int .i64 t207)).setCell ⟨gb213, 2, none⟩ (.string t208)).setCell ⟨gb213, 3, none⟩ (.string t209)).setCell ⟨gb213, 4, none⟩ (.slice Ao84 t210.length co84)).heap[gb213]? = some (.cells #[.int .i64 t206, .int .i64 t207, .string t208, .string t209, .slice Ao84 t210.length co84] 26 (0, 0))) := ⟨by (with_reducible repeat (first | refine qa ?_ _ | refine qb ?_ | refine qc ?_ _)); refine blk_put (cs := #[.int .i64 t206, .int .i64 t207, .string t208, .string t209, .slice none 0 0]) ?_ 4 _ rfl; (with_reducible repeat (first | refine qa ?_ _ | refine qb ?_ | refine qc ?_ _)); refine blk_put (cs := #[.int .i64 t206, .int .i64 t207, .string t208, .string (⟨#[]⟩ : ByteArray), .slice none 0 0]) ?_ 3 _ rfl; (with_reducible repeat (first | refine qa ?_ _ | refine qb ?_ | refine qc ?_ _)); refine blk_put (cs := #[.int .i64 t206, .int .i64 t207, .string (⟨#[]⟩ : ByteArray), .string (⟨#[]⟩ : ByteArray), .slice none 0 0]) ?_ 2 _ rfl; (with_reducible repeat (first | refine qa ?_ _ | refine qb ?_ | refine qc ?_ _)); refine blk_put (cs := #[.int .i64 t206, .int .i64 0, .string (⟨#[]⟩ : ByteArray), .string (⟨#[]⟩ : ByteArray), .slice none 0 0]) ?_ 1 _ rfl; (with_reducible repeat (first | refine qa ?_ _ | refine qb ?_ | refine qc ?_ _)); refine blk_put (cs := #[.int .i64 0, .int .i64 0, .string (⟨#[]⟩ : ByteArray), .string (⟨#[]⟩ : ByteArray), .slice none 0 0]) ?_ 0 _ rfl; (with_reducible repeat (first | refine qa ?_ _ | refine qb ?_ | refine qc ?_ _)); exact BK213.out⟩
   have n7_ : Aside0 (Below w.heap.size w (((((w79.setCell ⟨gb213, 0, none⟩ (.int .i64 t206)).setCell ⟨gb213, 1, none⟩ (.int .i64 t207)).setCell ⟨gb213, 2, none⟩ (.string t208)).setCell ⟨gb213, 3, none⟩ (.string t209)).setCell ⟨gb213, 4, none⟩ (.slice Ao84 t210.length co84))) := ⟨by repeat (first | (with_reducible first | exact HB.out | apply qf | apply qn | apply qe | refine qd ?_ GE173.out | refine qd ?_ GE174.out | refine qd ?_ GE186.out | refine qd ?_ GE213.out) | exact HB.out)⟩
   (try clear HO_7)
   (try clear HO_187004)
   (try clear HO212)
   (try clear BK173)
   (try clear BK174)
   (try clear BK186)
   (try clear BK213)
   (try clear HB)
   generalize (((((w79.setCell ⟨gb213, 0, none⟩ (.int .i64 t206)).setCell ⟨gb213, 1, none⟩ (.int .i64 t207)).setCell ⟨gb213, 2, none⟩ (.string t208)).setCell ⟨gb213, 3, none⟩ (.string t209)).setCell ⟨gb213, 4, none⟩ (.slice Ao84 t210.length co84)) = w104 at n0_ n1_ n2_ n3_ n4_ n5_ n6_ n7_ ⊢
   have HO_7 := n0_
   have HO_187004 := n1_
   have HO212 := n2_
   have BK173 := n3_
   have BK174 := n4_
   have BK186 := n5_
   have BK213 := n6_
   have HB := n7_
   clear n0_ n1_ n2_ n3_ n4_ n5_ n6_ n7_
   have n0_ := Aside0.mk (qy HO_7.out)
   have n1_ := Aside0.mk (qy HO_187004.out)
   have n2_ := Aside0.mk (qy HO212.out)
   have n3_ := Aside0.mk (qb BK173.out)
   have n4_ := Aside0.mk (qb BK174.out)
   have n5_ := Aside0.mk (qb BK186.out)
   have n6_ := Aside0.mk (qb BK213.out)
   have n7_ := Aside0.mk (qe HB.out)
   clear HO_7
   clear HO_187004
   clear HO212
   clear BK173
   clear BK174
   clear BK186
   clear BK213
   clear HB
   have HO_7 := n0_
   have HO_187004 := n1_
   have HO212 := n2_
   have BK173 := n3_
   have BK174 := n4_
   have BK186 := n5_
   have BK213 := n6_
   have HB := n7_
   clear n0_ n1_ n2_ n3_ n4_ n5_ n6_ n7_
   refine start_ (n := 17) (S := fun w' => w'.cell? ⟨gb213, 0, none⟩ = some (.int .i64 t206) ∧ w'.cell? ⟨gb213, 1, none⟩ = some (.int .i64 t207) ∧ w'.cell? ⟨gb213, 2, none⟩ = some (.string t208) ∧ w'.cell? ⟨gb213, 3, none⟩ = some (.string t209) ∧ w'.cell? ⟨gb213, 4, none⟩ = some (.slice Ao84 t210.length co84) ∧ w'.cell? ⟨gb174, 0, none⟩ = some (.int .i64 a1_0) ∧ w'.cell? ⟨gb174, 1, none⟩ = some (.int .i64 a1_1) ∧ w'.cell? ⟨gb174, 2, none⟩ = some (.string a1_2) ∧ w'.cell? ⟨gb174, 3, none⟩ = some (.string a1_3) ∧ w'.cell? ⟨gb174, 4, none⟩ = some (.slice A1_4 l1_4.length c1_4)) (ds := []) #[false, false, false, false, false, false, false, false, false, false, false, false, false, false, false, false, false] (by kernel_rfl) rfl rfl ⟨(qh BK213.out 0).trans rfl, (qh BK213.out 1).trans rfl, (qh BK213.out 2).trans rfl, (qh BK213.out 3).trans rfl, (qh BK213.out 4).trans rfl, (qh BK174.out 0).trans rfl, (qh BK174.out 1).trans rfl, (qh BK174.out 2).trans rfl, (qh BK174.out 3).trans rfl, (qh BK174.out 4).trans rfl⟩ (fun hHeld => ?_); refine with_tabW hearsaylaw02_TermUnifies.tab8 hearsaylaw02_TermUnifies.bits8 (fun HT_ HW_ => ?_)
   generalize w104.drew = w105 at HO_7 HO_187004 HO212 BK173 BK174 BK186 BK213 HB hHeld ⊢
   refine pure_ (i := 1) (N := some 69) (v := ?_) (a' := ?_) #[false, true, false, false, false, false, false, false, false, false, false, false, false, false, false, false, false] rfl rfl (any_of HT_.out (by kernel_rfl)) (fun _ _ _ h => h) (Or.inl ⟨by rfl, ?_⟩) ?_ ?_
   rotate_left
   · intro w'
     go_simp
     with_reducible rfl
   rotate_left
   · simp only [Act.put, List.setIfInBounds_toArray, List.set_cons_zero, List.set_cons_succ, i64_w, i32_w]
     rfl
   refine take_ (i := 0) (N := some 68) (v := ?_) (a' := ?_) #[true, true, false, false, false, false, false, false, false, false, false, false, false, false, false, false, false] rfl rfl (take_ofW HT_.out HW_.out (by kernel_rfl)) (fun _ _ _ h => h) (Or.inl ⟨by rfl, ?_⟩) hHeld ?_ ?_
   rotate_left
   · rintro w' ⟨s0, s1, s2, s3, s4, s5, s6, s7, s8, s9⟩
     go_simp
     with_reducible rfl
   rotate_left
   · simp only [Act.put, List.setIfInBounds_toArray, List.set_cons_zero, List.set_cons_succ, i64_w, i32_w]
     rfl
   refine take_ (i := 2) (N := some 70) (v := ?_) (a' := ?_) #[true, true, true, false, false, false, false, false, false, false, false, false, false, false, false, false, false] rfl rfl (take_ofW HT_.out HW_.out (by kernel_rfl)) (fun _ _ _ h => h) (Or.inl ⟨by rfl, ?_⟩) hHeld ?_ ?_
   rotate_left
   · rintro w' ⟨s0, s1, s2, s3, s4, s5, s6, s7, s8, s9⟩
     go_simp
     with_reducible rfl
   rotate_left
   · simp only [Act.put, List.setIfInBounds_toArray, List.set_cons_zero, List.set_cons_succ, i64_w, i32_w]
     rfl
   refine one_ (i := 3) (N := some 71) #[true, true, true, true, false, false, false, false, false, false, false, false, false, false, false, false, false] rfl rfl (one_of HT_.out (by kernel_rfl)) (by decide) (fun K hK => ?_)
   refine goes_ Tryd.func23 (by kernel_rfl) rfl #[.slice A2 l2.length c2, .agg #[.int .i64 a1_0, .int .i64 a1_1, .string a1_2, .string a1_3, .slice A1_4 l1_4.length c1_4]] (by rfl) rfl rfl (by (try simp only [List.map_toArray, List.map_cons, List.map_nil]); first | done | rfl | (simp only [List.length_drop, List.length_take]; rfl)) ?_
   with_reducible refine (term_Apply.calls kj69 _ _ l2 a1_0 a1_1 a1_2 a1_3 _ _ l1_4 t214 t215 t216 t217 t218 _ ?side1 ?side2 ?side3 ?side4 ?side5 A85.out).mono ?_
   (case side1 => repeat (first | exact (Kd.C_below HR2.out HB.out) | (with_reducible refine Kd.C_alloc ?_ _) | (with_reducible refine Kd.C_drewN ?_ _) | (with_reducible refine Kd.C_drew ?_)))
   (case side2 => exact HC2.out)
   (case side3 => repeat (first | exact (Kd.C_below HR1_4.out HB.out) | (with_reducible refine Kd.C_alloc ?_ _) | (with_reducible refine Kd.C_drewN ?_ _) | (with_reducible refine Kd.C_drew ?_)))
   (case side4 => exact HC1_4.out)
   (case side5 => exact Laid2.up HLD2.out (by repeat (first | (with_reducible first | exact HB.out | apply qf | apply qn | apply qe | refine qd ?_ GE173.out | refine qd ?_ GE174.out | refine qd ?_ GE186.out | refine qd ?_ GE213.out) | exact HB.out)))
   rintro e w106 ⟨v219, rfl, ho0, hb⟩
   refine ⟨_, rfl, ?_⟩
   have n0_ := Aside0.mk (Kd.R_below (by (with_reducible repeat (first | apply qz | apply qx | apply qy)); exact HO_7.out) hb)
   have n1_ := Aside0.mk (Kd.R_elder' (by (with_reducible repeat (first | apply qz | apply qx | apply qy)); exact HO_187004.out) (Kd.R_base ho0) hb)
   have n2_ := Aside0.mk (Kd.R_elder' (by (with_reducible repeat (first | apply qz | apply qx | apply qy)); exact HO212.out) (Kd.R_base ho0) hb)
   have n3_ := Aside0.mk (Kd.R_lower (Kd.R_new' (Kd.R_new' ho0 (Kd.R_lt (by (with_reducible repeat (first | apply qz | apply qx | apply qy)); exact HO_187004.out))) (Kd.R_lt (by (with_reducible repeat (first | apply qz | apply qx | apply qy)); exact HO212.out))) (below_size (by repeat (first | (with_reducible first | exact HB.out | apply qf | apply qn | apply qe | refine qd ?_ GE173.out | refine qd ?_ GE174.out | refine qd ?_ GE186.out | refine qd ?_ GE213.out) | exact HB.out))))
   have n4_ := Aside0.mk (qw (g := gb173) (o := .cells #[.int .i64 a0_0, .int .i64 a0_1, .string a0_2, .string a0_3, .slice A0_4 l0_4.length c0_4] 26 (0, 0)) (by (with_reducible repeat (first | refine qa ?_ _ | refine qb ?_ | refine qc ?_ _)); exact BK173.out) hb)
   have n5_ := Aside0.mk (qw (g := gb174) (o := .cells #[.int .i64 a1_0, .int .i64 a1_1, .string a1_2, .string a1_3, .slice A1_4 l1_4.length c1_4] 26 (0, 0)) (by (with_reducible repeat (first | refine qa ?_ _ | refine qb ?_ | refine qc ?_ _)); exact BK174.out) hb)
   have n6_ := Aside0.mk (qw (g := gb186) (o := .cells #[.int .i64 t179, .int .i64 t180, .string t181, .string t182, .slice Ao20 t183.length co20] 26 (0, 0)) (by (with_reducible repeat (first | refine qa ?_ _ | refine qb ?_ | refine qc ?_ _)); exact BK186.out) hb)
   have n7_ := Aside0.mk (qw (g := gb213) (o := .cells #[.int .i64 t206, .int .i64 t207, .string t208, .string t209, .slice Ao84 t210.length co84] 26 (0, 0)) (by (with_reducible repeat (first | refine qa ?_ _ | refine qb ?_ | refine qc ?_ _)); exact BK213.out) hb)
   have n8_ := Aside0.mk (below_step (by repeat (first | (with_reducible first | exact HB.out | apply qf | apply qn | apply qe | refine qd ?_ GE173.out | refine qd ?_ GE174.out | refine qd ?_ GE186.out | refine qd ?_ GE213.out) | exact HB.out)) hb)
   clear HO_7
   clear HO_187004
   clear HO212
   clear BK173
   clear BK174
   clear BK186
   clear BK213
   clear HB
   have HO_7 := n0_
   have HO_187004 := n1_
   have HO212 := n2_
   have HO220 := n3_
   have BK173 := n4_
   have BK174 := n5_
   have BK186 := n6_
   have BK213 := n7_
   have HB := n8_
   clear n0_ n1_ n2_ n3_ n4_ n5_ n6_ n7_ n8_
   (try clear hb)
   (try clear hb2)
   (try clear hk)
   (try clear hi)
   (try clear ho0)
   obtain ⟨Ao107, co107, eo107⟩ := Kd.R_slice HO220.out
   (first | subst eo107 | (injection eo107 with f1_ f2_ f3_; have f4_ := f1_.symm; have f5_ := f3_.symm; clear f1_ f2_ f3_; subst f4_; subst f5_))
   refine hK.out _ _ ⟨(qh BK213.out 0).trans rfl, (qh BK213.out 1).trans rfl, (qh BK213.out 2).trans rfl, (qh BK213.out 3).trans rfl, (qh BK213.out 4).trans rfl, (qh BK174.out 0).trans rfl, (qh BK174.out 1).trans rfl, (qh BK174.out 2).trans rfl, (qh BK174.out 3).trans rfl, (qh BK174.out 4).trans rfl⟩ (fun hHeld => ?_)
   clear hK K
   refine norm_ (a' := ?_) ?_ ?_
   rotate_left
   · show Act.put _ (some 71) _ = _
     simp only [Act.put, List.setIfInBounds_toArray, List.set_cons_zero, List.set_cons_succ, i64_w, i32_w]
     rfl
   refine one_ (i := 4) (N := some 72) #[true, true, true, true, true, false, false, false, false, false, false, false, false, false, false, false, false] rfl rfl (one_of HT_.out (by kernel_rfl)) (by decide) (fun K hK => ?_)
   refine goes_ Tryd.func22 (by kernel_rfl) rfl #[.agg #[.int .i64 t206, .int .i64 t207, .string t208, .string t209, .slice Ao84 t210.length co84], .agg #[.int .i64 t214, .int .i64 t215, .string t216, .string t217, .slice Ao107 t218.length co107]] (by rfl) rfl rfl (by (try simp only [List.map_toArray, List.map_cons, List.map_nil]); first | done | rfl | (simp only [List.length_drop, List.length_take]; rfl)) ?_
   with_reducible refine (hearsaylaw02_same.calls kj69 t206 t207 t208 t209 _ _ t210 t214 t215 t216 t217 _ _ t218 false _ ?side1 ?side2 ?side3 ?side4 A86.out).mono ?_
   (case side1 => repeat (first | exact (Kd.R_reads' HO212.out).2.2 | (with_reducible refine Kd.C_alloc ?_ _) | (with_reducible refine Kd.C_drewN ?_ _) | (with_reducible refine Kd.C_drew ?_)))
   (case side2 => exact (Kd.R_reads' HO212.out).2.1)
   (case side3 => repeat (first | exact (Kd.R_reads' HO220.out).2.2 | (with_reducible refine Kd.C_alloc ?_ _) | (with_reducible refine Kd.C_drewN ?_ _) | (with_reducible refine Kd.C_drew ?_)))
   (case side4 => exact (Kd.R_reads' HO220.out).2.1)
   rintro e w108 ⟨rfl, hb⟩
   refine ⟨_, rfl, ?_⟩
   have n0_ := Aside0.mk (Kd.R_below (by (with_reducible repeat (first | apply qz | apply qx | apply qy)); exact HO_7.out) hb)
   have n1_ := Aside0.mk (Kd.R_below (by (with_reducible repeat (first | apply qz | apply qx | apply qy)); exact HO_187004.out) hb)
   have n2_ := Aside0.mk (Kd.R_below (by (with_reducible repeat (first | apply qz | apply qx | apply qy)); exact HO212.out) hb)
   have n3_ := Aside0.mk (Kd.R_below (by (with_reducible repeat (first | apply qz | apply qx | apply qy)); exact HO220.out) hb)
   have n4_ := Aside0.mk (qw (g := gb173) (o := .cells #[.int .i64 a0_0, .int .i64 a0_1, .string a0_2, .string a0_3, .slice A0_4 l0_4.length c0_4] 26 (0, 0)) (by (with_reducible repeat (first | refine qa ?_ _ | refine qb ?_ | refine qc ?_ _)); exact BK173.out) hb)
   have n5_ := Aside0.mk (qw (g := gb174) (o := .cells #[.int .i64 a1_0, .int .i64 a1_1, .string a1_2, .string a1_3, .slice A1_4 l1_4.length c1_4] 26 (0, 0)) (by (with_reducible repeat (first | refine qa ?_ _ | refine qb ?_ | refine qc ?_ _)); exact BK174.out) hb)
   have n6_ := Aside0.mk (qw (g := gb186) (o := .cells #[.int .i64 t179, .int .i64 t180, .string t181, .string t182, .slice Ao20 t183.length co20] 26 (0, 0)) (by (with_reducible repeat (first | refine qa ?_ _ | refine qb ?_ | refine qc ?_ _)); exact BK186.out) hb)
   have n7_ := Aside0.mk (qw (g := gb213) (o := .cells #[.int .i64 t206, .int .i64 t207, .string t208, .string t209, .slice Ao84 t210.length co84] 26 (0, 0)) (by (with_reducible repeat (first | refine qa ?_ _ | refine qb ?_ | refine qc ?_ _)); exact BK213.out) hb)
   have n8_ := Aside0.mk (below_step (by repeat (first | (with_reducible first | exact HB.out | apply qf | apply qn | apply qe | refine qd ?_ GE173.out | refine qd ?_ GE174.out | refine qd ?_ GE186.out | refine qd ?_ GE213.out) | exact HB.out)) hb)
   clear HO_7
   clear HO_187004
   clear HO212
   clear HO220
   clear BK173
   clear BK174
   clear BK186
   clear BK213
   clear HB
   have HO_7 := n0_
   have HO_187004 := n1_
   have HO212 := n2_
   have HO220 := n3_
   have BK173 := n4_
   have BK174 := n5_
   have BK186 := n6_
   have BK213 := n7_
   have HB := n8_
   clear n0_ n1_ n2_ n3_ n4_ n5_ n6_ n7_ n8_
   (try clear hb)
   (try clear hb2)
   (try clear hk)
   (try clear hi)
   refine hK.out _ _ ⟨(qh BK213.out 0).trans rfl, (qh BK213.out 1).trans rfl, (qh BK213.out 2).trans rfl, (qh BK213.out 3).trans rfl, (qh BK213.out 4).trans rfl, (qh BK174.out 0).trans rfl, (qh BK174.out 1).trans rfl, (qh BK174.out 2).trans rfl, (qh BK174.out 3).trans rfl, (qh BK174.out 4).trans rfl⟩ (fun hHeld => ?_)
   clear hK K
   refine norm_ (a' := ?_) ?_ ?_
   rotate_left
   · show Act.put _ (some 72) _ = _
     simp only [Act.put, List.setIfInBounds_toArray, List.set_cons_zero, List.set_cons_succ, i64_w, i32_w]
     rfl
   refine pure_ (i := 5) (N := some 73) (v := ?_) (a' := ?_) #[true, true, true, true, true, true, false, false, false, false, false, false, false, false, false, false, false] rfl rfl (any_of HT_.out (by kernel_rfl)) (fun _ _ _ h => h) (Or.inl ⟨by rfl, ?_⟩) ?_ ?_
   rotate_left
   · intro w'
     go_simp
     with_reducible rfl
   rotate_left
   · simp only [Act.put, List.setIfInBounds_toArray, List.set_cons_zero, List.set_cons_succ, i64_w, i32_w]
     rfl
   refine pure_ (i := 6) (N := some 74) (v := undef) (a' := ?_) #[true, true, true, true, true, true, true, false, false, false, false, false, false, false, false, false, false] rfl rfl (any_of HT_.out (by kernel_rfl)) (fun _ _ _ h => h) (Or.inr ⟨by rfl, rfl⟩) ?_ ?_
   rotate_left
   · simp only [Act.put, List.setIfInBounds_toArray, List.set_cons_zero, List.set_cons_succ, i64_w, i32_w]
     rfl
   refine pure_ (i := 7) (N := some 75) (v := undef) (a' := ?_) #[true, true, true, true, true, true, true, true, false, false, false, false, false, false, false, false, false] rfl rfl (any_of HT_.out (by kernel_rfl)) (fun _ _ _ h => h) (Or.inr ⟨by rfl, rfl⟩) ?_ ?_
   rotate_left
   · simp only [Act.put, List.setIfInBounds_toArray, List.set_cons_zero, List.set_cons_succ, i64_w, i32_w]
     rfl
   refine pure_ (i := 8) (N := some 76) (v := undef) (a' := ?_) #[true, true, true, true, true, true, true, true, true, false, false, false, false, false, false, false, false] rfl rfl (any_of HT_.out (by kernel_rfl)) (fun _ _ _ h => h) (Or.inr ⟨by rfl, rfl⟩) ?_ ?_
   rotate_left
   · simp only [Act.put, List.setIfInBounds_toArray, List.set_cons_zero, List.set_cons_succ, i64_w, i32_w]
     rfl
   refine pure_ (i := 9) (N := some 77) (v := undef) (a' := ?_) #[true, true, true, true, true, true, true, true, true, true, false, false, false, false, false, false, false] rfl rfl (any_of HT_.out (by kernel_rfl)) (fun _ _ _ h => h) (Or.inr ⟨by rfl, rfl⟩) ?_ ?_
   rotate_left
   · simp only [Act.put, List.setIfInBounds_toArray, List.set_cons_zero, List.set_cons_succ, i64_w, i32_w]
     rfl
   refine pure_ (i := 10) (N := some 78) (v := ?_) (a' := ?_) #[true, true, true, true, true, true, true, true, true, true, true, false, false, false, false, false, false] rfl rfl (any_of HT_.out (by kernel_rfl)) (fun _ _ _ h => h) (Or.inl ⟨by rfl, ?_⟩) ?_ ?_
   rotate_left
   · intro w'
     go_simp
     with_reducible rfl
   rotate_left
   · simp only [Act.put, List.setIfInBounds_toArray, List.set_cons_zero, List.set_cons_succ, i64_w, i32_w]
     rfl
   refine pure_ (i := 11) (N := some 79) (v := ?_) (a' := ?_) #[true, true, true, true, true, true, true, true, true, true, true, true, false, false, false, false, false] rfl rfl (any_of HT_.out (by kernel_rfl)) (fun _ _ _ h => h) (Or.inl ⟨by rfl, ?_⟩) ?_ ?_
   rotate_left
   · intro w'
     go_simp
     with_reducible rfl
   rotate_left
   · simp only [Act.put, List.setIfInBounds_toArray, List.set_cons_zero, List.set_cons_succ, i64_w, i32_w]
     rfl
   refine pure_ (i := 12) (N := some 80) (v := undef) (a' := ?_) #[true, true, true, true, true, true, true, true, true, true, true, true, true, false, false, false, false] rfl rfl (any_of HT_.out (by kernel_rfl)) (fun _ _ _ h => h) (Or.inr ⟨by rfl, rfl⟩) ?_ ?_
   rotate_left
   · simp only [Act.put, List.setIfInBounds_toArray, List.set_cons_zero, List.set_cons_succ, i64_w, i32_w]
     rfl
   refine pure_ (i := 13) (N := some 81) (v := undef) (a' := ?_) #[true, true, true, true, true, true, true, true, true, true, true, true, true, true, false, false, false] rfl rfl (any_of HT_.out (by kernel_rfl)) (fun _ _ _ h => h) (Or.inr ⟨by rfl, rfl⟩) ?_ ?_
   rotate_left
   · simp only [Act.put, List.setIfInBounds_toArray, List.set_cons_zero, List.set_cons_succ, i64_w, i32_w]
     rfl
   refine pure_ (i := 14) (N := some 82) (v := undef) (a' := ?_) #[true, true, true, true, true, true, true, true, true, true, true, true, true, true, true, false, false] rfl rfl (any_of HT_.out (by kernel_rfl)) (fun _ _ _ h => h) (Or.inr ⟨by rfl, rfl⟩) ?_ ?_
   rotate_left
   · simp only [Act.put, List.setIfInBounds_toArray, List.set_cons_zero, List.set_cons_succ, i64_w, i32_w]
     rfl
   refine pure_ (i := 15) (N := some 83) (v := undef) (a' := ?_) #[true, true, true, true, true, true, true, true, true, true, true, true, true, true, true, true, false] rfl rfl (any_of HT_.out (by kernel_rfl)) (fun _ _ _ h => h) (Or.inr ⟨by rfl, rfl⟩) ?_ ?_
   rotate_left
   · simp only [Act.put, List.setIfInBounds_toArray, List.set_cons_zero, List.set_cons_succ, i64_w, i32_w]
     rfl
   refine pure_ (i := 16) (N := some 84) (v := ?_) (a' := ?_) #[true, true, true, true, true, true, true, true, true, true, true, true, true, true, true, true, true] rfl rfl (any_of HT_.out (by kernel_rfl)) (fun _ _ _ h => h) (Or.inl ⟨by rfl, ?_⟩) ?_ ?_
   rotate_left
   · intro w'
     go_simp
     with_reducible rfl
   rotate_left
   · simp only [Act.put, List.setIfInBounds_toArray, List.set_cons_zero, List.set_cons_succ, i64_w, i32_w]
     rfl
   refine done_ (done_of HT_.out (by kernel_rfl)) ?_
   try go_wp2
   go_meet
   exact ⟨_, (false), (by first | rfl | (simp; done) | (simp [*]; done)), H', ⟨by have := HJ5.out; have := HJ69.out; first | omega | exact Nat.le_refl _⟩, ⟨by (with_reducible repeat (first | apply qz | apply qx | apply qy)); exact HO_7.out⟩, ⟨by (with_reducible repeat (first | apply qz | apply qx | apply qy)); exact Kd.R_mono HO_187004.out (fun _ hk => hk.1)⟩, ⟨by (with_reducible repeat (first | apply qz | apply qx | apply qy)); exact Kd.R_mono HO212.out (fun _ hk => hk.1)⟩, ⟨by (with_reducible repeat (first | refine qa ?_ _ | refine qb ?_ | refine qc ?_ _)); exact BK173.out⟩, ⟨by (with_reducible repeat (first | refine qa ?_ _ | refine qb ?_ | refine qc ?_ _)); exact BK174.out⟩, ⟨by (with_reducible repeat (first | refine qa ?_ _ | refine qb ?_ | refine qc ?_ _)); exact BK186.out⟩, ⟨by (with_reducible repeat (first | refine qa ?_ _ | refine qb ?_ | refine qc ?_ _)); exact BK213.out⟩, ⟨by repeat (first | (with_reducible first | exact HB.out | apply qf | apply qn | apply qe | refine qd ?_ GE173.out | refine qd ?_ GE174.out | refine qd ?_ GE186.out | refine qd ?_ GE213.out) | exact HB.out)⟩⟩
  subst c87
  have H1 : ((hearsaylaw02_fits.f kj69 l2 a0_0 a0_1 a0_2).bind fun t222 => (if t222 = true then ((hearsaylaw02_fits.f kj69 l2 a1_0 a1_1 a1_2).bind fun t223 => (hearsaylaw02_TermUnifies.j2 kj69 l2 t175 t178 t223 a0_0 a0_1 a0_2 a0_3 l0_4 a1_0 a1_1 a1_2 a1_3 l1_4 t179 t180 t181 t182 t183 t206 t207 t208 t209 t210)) else (hearsaylaw02_TermUnifies.j2 kj69 l2 t175 t178 false a0_0 a0_1 a0_2 a0_3 l0_4 a1_0 a1_1 a1_2 a1_3 l1_4 t179 t180 t181 t182 t183 t206 t207 t208 t209 t210))) = some r := by rw [if_pos rfl] at H; exact H
  clear H
  have H := H1
  clear H1
  replace H := Option.bind_eq_some_iff.mp H
  obtain ⟨t222, A880, H⟩ := H
  replace H : (if t222 = true then ((hearsaylaw02_fits.f kj69 l2 a1_0 a1_1 a1_2).bind fun t223 => (hearsaylaw02_TermUnifies.j2 kj69 l2 t175 t178 t223 a0_0 a0_1 a0_2 a0_3 l0_4 a1_0 a1_1 a1_2 a1_3 l1_4 t179 t180 t181 t182 t183 t206 t207 t208 t209 t210)) else (hearsaylaw02_TermUnifies.j2 kj69 l2 t175 t178 false a0_0 a0_1 a0_2 a0_3 l0_4 a1_0 a1_1 a1_2 a1_3 l1_4 t179 t180 t181 t182 t183 t206 t207 t208 t209 t210)) = some r := H
  have A88 := Aside0.mk A880
  clear A880
  by_cases c89 : t222 = true
  rotate_left
  ·
   replace c89 := Bool.eq_false_iff.mpr c89
   subst c89
   have H1 : (hearsaylaw02_TermUnifies.j2 kj69 l2 t175 t178 false a0_0 a0_1 a0_2 a0_3 l0_4 a1_0 a1_1 a1_2 a1_3 l1_4 t179 t180 t181 t182 t183 t206 t207 t208 t209 t210) = some r := by rw [if_neg (show ¬ (false = true) by decide)] at H; exact H
   clear H
   have H := H1
   clear H1
   have H' := Aside0.mk H
   clear H
   try go_wp2
   have n0_ : Aside0 (Kd.R k44 44 (((((w79.setCell ⟨gb213, 0, none⟩ (.int .i64 t206)).setCell ⟨gb213, 1, none⟩ (.int .i64 t207)).setCell ⟨gb213, 2, none⟩ (.string t208)).setCell ⟨gb213, 3, none⟩ (.string t209)).setCell ⟨gb213, 4, none⟩ (.slice Ao84 t210.length co84)) w.heap.size (fun _ => True) (.slice Ao14 t175.length co14) t175) := ⟨by (with_reducible repeat (first | apply qz | apply qx | apply qy)); exact Kd.R_mono (Kd.R_far (p := ⟨gb213, 4, none⟩) (Kd.R_far (p := ⟨gb213, 3, none⟩) (Kd.R_far (p := ⟨gb213, 2, none⟩) (Kd.R_far (p := ⟨gb213, 1, none⟩) (Kd.R_far (p := ⟨gb213, 0, none⟩) (Kd.R_types HO_7.out BK213.out (by decide)) (fun _ hk => hk.2) (.int .i64 t206)) (fun _ hk => hk.2) (.int .i64 t207)) (fun _ hk => hk.2) (.string t208)) (fun _ hk => hk.2) (.string t209)) (fun _ hk => hk.2) (.slice Ao84 t210.length co84)) (fun _ hk => trivial)⟩
   have n1_ : Aside0 (Kd.R k23 23 (((((w79.setCell ⟨gb213, 0, none⟩ (.int .i64 t206)).setCell ⟨gb213, 1, none⟩ (.int .i64 t207)).setCell ⟨gb213, 2, none⟩ (.string t208)).setCell ⟨gb213, 3, none⟩ (.string t209)).setCell ⟨gb213, 4, none⟩ (.slice Ao84 t210.length co84)) w.heap.size (fun k_ => some k_ ≠ (.slice Ao84 t210.length co84 : Value).ownBlock) (.slice Ao20 t183.length co20) t183) := ⟨by (with_reducible repeat (first | apply qz | apply qx | apply qy)); exact Kd.R_mono (Kd.R_far (p := ⟨gb213, 4, none⟩) (Kd.R_far (p := ⟨gb213, 3, none⟩) (Kd.R_far (p := ⟨gb213, 2, none⟩) (Kd.R_far (p := ⟨gb213, 1, none⟩) (Kd.R_far (p := ⟨gb213, 0, none⟩) (Kd.R_types HO_187004.out BK213.out (by decide)) (fun _ hk => hk.2) (.int .i64 t206)) (fun _ hk => hk.2) (.int .i64 t207)) (fun _ hk => hk.2) (.string t208)) (fun _ hk => hk.2) (.string t209)) (fun _ hk => hk.2) (.slice Ao84 t210.length co84)) (fun _ hk => hk.1.2)⟩
   have n2_ : Aside0 (Kd.R k23 23 (((((w79.setCell ⟨gb213, 0, none⟩ (.int .i64 t206)).setCell ⟨gb213, 1, none⟩ (.int .i64 t207)).setCell ⟨gb213, 2, none⟩ (.string t208)).setCell ⟨gb213, 3, none⟩ (.string t209)).setCell ⟨gb213, 4, none⟩ (.slice Ao84 t210.length co84)) w.heap.size (fun k_ => some k_ ≠ (.slice Ao20 t183.length co20 : Value).ownBlock) (.slice Ao84 t210.length co84) t210) := ⟨by (with_reducible repeat (first | apply qz | apply qx | apply qy)); exact Kd.R_mono (Kd.R_far (p := ⟨gb213, 4, none⟩) (Kd.R_far (p := ⟨gb213, 3, none⟩) (Kd.R_far (p := ⟨gb213, 2, none⟩) (Kd.R_far (p := ⟨gb213, 1, none⟩) (Kd.R_far (p := ⟨gb213, 0, none⟩) (Kd.R_types HO212.out BK213.out (by decide)) (fun _ hk => hk.2) (.int .i64 t206)) (fun _ hk => hk.2) (.int .i64 t207)) (fun _ hk => hk.2) (.string t208)) (fun _ hk => hk.2) (.string t209)) (fun _ hk => hk.2) (.slice Ao84 t210.length co84)) (fun _ hk => hk.1.2)⟩
   have n3_ : Aside0 ((((((w79.setCell ⟨gb213, 0, none⟩ (.int .i64 t206)).setCell ⟨gb213, 1, none⟩ (.int .i64 t207)).setCell ⟨gb213, 2, none⟩ (.string t208)).setCell ⟨gb213, 3, none⟩ (.string t209)).setCell ⟨gb213, 4, none⟩ (.slice Ao84 t210.length co84)).heap[gb173]? = some (.cells #[.int .i64 a0_0, .int .i64 a0_1, .string a0_2, .string a0_3, .slice A0_4 l0_4.length c0_4] 26 (0, 0))) := ⟨by (with_reducible repeat (first | refine qa ?_ _ | refine qb ?_ | refine qc ?_ _)); refine blk_far ?_ NB173_213.out _; (with_reducible repeat (first | refine qa ?_ _ | refine qb ?_ | refine qc ?_ _)); refine blk_far ?_ NB173_213.out _; (with_reducible repeat (first | refine qa ?_ _ | refine qb ?_ | refine qc ?_ _)); refine blk_far ?_ NB173_213.out _; (with_reducible repeat (first | refine qa ?_ _ | refine qb ?_ | refine qc ?_ _)); refine blk_far ?_ NB173_213.out _; (with_reducible repeat (first | refine qa ?_ _ | refine qb ?_ | refine qc ?_ _)); refine blk_far ?_ NB173_213.out _; (with_reducible repeat (first | refine qa ?_ _ | refine qb ?_ | refine qc ?_ _)); exact BK173.out⟩
   have n4_ : Aside0 ((((((w79.setCell ⟨gb213, 0, none⟩ (.int .i64 t206)).setCell ⟨gb213, 1, none⟩ (.int .i64 t207)).setCell ⟨gb213, 2, none⟩ (.string t208)).setCell ⟨gb213, 3, none⟩ (.string t209)).setCell ⟨gb213, 4, none⟩ (.slice Ao84 t210.length co84)).heap[gb174]? = some (.cells #[.int .i64 a1_0, .int .i64 a1_1, .string a1_2, .string a1_3, .slice A1_4 l1_4.length c1_4] 26 (0, 0))) := ⟨by (with_reducible repeat (first | refine qa ?_ _ | refine qb ?_ | refine qc ?_ _)); refine blk_far ?_ NB174_213.out _; (with_reducible repeat (first | refine qa ?_ _ | refine qb ?_ | refine qc ?_ _)); refine blk_far ?_ NB174_213.out _; (with_reducible repeat (first | refine qa ?_ _ | refine qb ?_ | refine qc ?_ _)); refine blk_far ?_ NB174_213.out _; (with_reducible repeat (first | refine qa ?_ _ | refine qb ?_ | refine qc ?_ _)); refine blk_far ?_ NB174_213.out _; (with_reducible repeat (first | refine qa ?_ _ | refine qb ?_ | refine qc ?_ _)); refine blk_far ?_ NB174_213.out _; (with_reducible repeat (first | refine qa ?_ _ | refine qb ?_ | refine qc ?_ _)); exact BK174.out⟩
   have n5_ : Aside0 ((((((w79.setCell ⟨gb213, 0, none⟩ (.int .i64 t206)).setCell ⟨gb213, 1, none⟩ (.int .i64 t207)).setCell ⟨gb213, 2, none⟩ (.string t208)).setCell ⟨gb213, 3, none⟩ (.string t209)).setCell ⟨gb213, 4, none⟩ (.slice Ao84 t210.length co84)).heap[gb186]? = some (.cells #[.int .i64 t179, .int .i64 t180, .string t181, .string t182, .slice Ao20 t183.length co20] 26 (0, 0))) := ⟨by (with_reducible repeat (first | refine qa ?_ _ | refine qb ?_ | refine qc ?_ _)); refine blk_far ?_ NB186_213.out _; (with_reducible repeat (first | refine qa ?_ _ | refine qb ?_ | refine qc ?_ _)); refine blk_far ?_ NB186_213.out _; (with_reducible repeat (first | refine qa ?_ _ | refine qb ?_ | refine qc ?_ _)); refine blk_far ?_ NB186_213.out _; (with_reducible repeat (first | refine qa ?_ _ | refine qb ?_ | refine qc ?_ _)); refine blk_far ?_ NB186_213.out _; (with_reducible repeat (first | refine qa ?_ _ | refine qb ?_ | refine qc ?_ _)); refine blk_far ?_ NB186_213.out _; (with_reducible repeat (first | refine qa ?_ _ | refine qb ?_ | refine qc ?_ _)); exact BK186.out⟩
   have n6_ : Aside0 ((((((w79.setCell ⟨gb213, 0, none⟩ (.int .i64 t206)).setCell ⟨gb213, 1, none⟩ (.int .i64 t207)).setCell ⟨gb213, 2, none⟩ (.string t208)).setCell ⟨gb213, 3, none⟩ (.string t209)).setCell ⟨gb213, 4, none⟩ (.slice Ao84 t210.length co84)).heap[gb213]? = some (.cells #[.int .i64 t206, .int .i64 t207, .string t208, .string t209, .slice Ao84 t210.length co84] 26 (0, 0))) := ⟨by (with_reducible repeat (first | refine qa ?_ _ | refine qb ?_ | refine qc ?_ _)); refine blk_put (cs := #[.int .i64 t206, .int .i64 t207, .string t208, .string t209, .slice none 0 0]) ?_ 4 _ rfl; (with_reducible repeat (first | refine qa ?_ _ | refine qb ?_ | refine qc ?_ _)); refine blk_put (cs := #[.int .i64 t206, .int .i64 t207, .string t208, .string (⟨#[]⟩ : ByteArray), .slice none 0 0]) ?_ 3 _ rfl; (with_reducible repeat (first | refine qa ?_ _ | refine qb ?_ | refine qc ?_ _)); refine blk_put (cs := #[.int .i64 t206, .int .i64 t207, .string (⟨#[]⟩ : ByteArray), .string (⟨#[]⟩ : ByteArray), .slice none 0 0]) ?_ 2 _ rfl; (with_reducible repeat (first | refine qa ?_ _ | refine qb ?_ | refine qc ?_ _)); refine blk_put (cs := #[.int .i64 t206, .int .i64 0, .string (⟨#[]⟩ : ByteArray), .string (⟨#[]⟩ : ByteArray), .slice none 0 0]) ?_ 1 _ rfl; (with_reducible repeat (first | refine qa ?_ _ | refine qb ?_ | refine qc ?_ _)); refine blk_put (cs := #[.int .i64 0, .int .i64 0, .string (⟨#[]⟩ : ByteArray), .string (⟨#[]⟩ : ByteArray), .slice none 0 0]) ?_ 0 _ rfl; (with_reducible repeat (first | refine qa ?_ _ | refine qb ?_ | refine qc ?_ _)); exact BK213.out⟩
   have n7_ : Aside0 (Below w.heap.size w (((((w79.setCell ⟨gb213, 0, none⟩ (.int .i64 t206)).setCell ⟨gb213, 1, none⟩ (.int .i64 t207)).setCell ⟨gb213, 2, none⟩ (.string t208)).setCell ⟨gb213, 3, none⟩ (.string t209)).setCell ⟨gb213, 4, none⟩ (.slice Ao84 t210.length co84))) := ⟨by repeat (first | (with_reducible first | exact HB.out | apply qf | apply qn | apply qe | refine qd ?_ GE173.out | refine qd ?_ GE174.out | refine qd ?_ GE186.out | refine qd ?_ GE213.out) | exact HB.out)⟩
   (try clear HO_7)
   (try clear HO_187004)
   (try clear HO212)
   (try clear BK173)
   (try clear BK174)
   (try clear BK186)
   (try clear BK213)
   (try clear HB)
   generalize (((((w79.setCell ⟨gb213, 0, none⟩ (.int .i64 t206)).setCell ⟨gb213, 1, none⟩ (.int .i64 t207)).setCell ⟨gb213, 2, none⟩ (.string t208)).setCell ⟨gb213, 3, none⟩ (.string t209)).setCell ⟨gb213, 4, none⟩ (.slice Ao84 t210.length co84)) = w98 at n0_ n1_ n2_ n3_ n4_ n5_ n6_ n7_ ⊢
   have HO_7 := n0_
   have HO_187004 := n1_
   have HO212 := n2_
   have BK173 := n3_
   have BK174 := n4_
   have BK186 := n5_
   have BK213 := n6_
   have HB := n7_
   clear n0_ n1_ n2_ n3_ n4_ n5_ n6_ n7_
   have n0_ := Aside0.mk (qy HO_7.out)
   have n1_ := Aside0.mk (qy HO_187004.out)
   have n2_ := Aside0.mk (qy HO212.out)
   have n3_ := Aside0.mk (qb BK173.out)
   have n4_ := Aside0.mk (qb BK174.out)
   have n5_ := Aside0.mk (qb BK186.out)
   have n6_ := Aside0.mk (qb BK213.out)
   have n7_ := Aside0.mk (qe HB.out)
   clear HO_7
   clear HO_187004
   clear HO212
   clear BK173
   clear BK174
   clear BK186
   clear BK213
   clear HB
   have HO_7 := n0_
   have HO_187004 := n1_
   have HO212 := n2_
   have BK173 := n3_
   have BK174 := n4_
   have BK186 := n5_
   have BK213 := n6_
   have HB := n7_
   clear n0_ n1_ n2_ n3_ n4_ n5_ n6_ n7_
   refine start_ (n := 17) (S := fun w' => w'.cell? ⟨gb213, 0, none⟩ = some (.int .i64 t206) ∧ w'.cell? ⟨gb213, 1, none⟩ = some (.int .i64 t207) ∧ w'.cell? ⟨gb213, 2, none⟩ = some (.string t208) ∧ w'.cell? ⟨gb213, 3, none⟩ = some (.string t209) ∧ w'.cell? ⟨gb213, 4, none⟩ = some (.slice Ao84 t210.length co84) ∧ w'.cell? ⟨gb174, 0, none⟩ = some (.int .i64 a1_0) ∧ w'.cell? ⟨gb174, 1, none⟩ = some (.int .i64 a1_1) ∧ w'.cell? ⟨gb174, 2, none⟩ = some (.string a1_2) ∧ w'.cell? ⟨gb174, 3, none⟩ = some (.string a1_3) ∧ w'.cell? ⟨gb174, 4, none⟩ = some (.slice A1_4 l1_4.length c1_4) ∧ w'.cell? ⟨gb173, 0, none⟩ = some (.int .i64 a0_0) ∧ w'.cell? ⟨gb173, 1, none⟩ = some (.int .i64 a0_1) ∧ w'.cell? ⟨gb173, 2, none⟩ = some (.string a0_2) ∧ w'.cell? ⟨gb173, 3, none⟩ = some (.string a0_3) ∧ w'.cell? ⟨gb173, 4, none⟩ = some (.slice A0_4 l0_4.length c0_4)) (ds := []) #[false, false, false, false, false, false, false, false, false, false, false, false, false, false, false, false, false] (by kernel_rfl) rfl rfl ⟨(qh BK213.out 0).trans rfl, (qh BK213.out 1).trans rfl, (qh BK213.out 2).trans rfl, (qh BK213.out 3).trans rfl, (qh BK213.out 4).trans rfl, (qh BK174.out 0).trans rfl, (qh BK174.out 1).trans rfl, (qh BK174.out 2).trans rfl, (qh BK174.out 3).trans rfl, (qh BK174.out 4).trans rfl, (qh BK173.out 0).trans rfl, (qh BK173.out 1).trans rfl, (qh BK173.out 2).trans rfl, (qh BK173.out 3).trans rfl, (qh BK173.out 4).trans rfl⟩ (fun hHeld => ?_); refine with_tabW hearsaylaw02_TermUnifies.tab8 hearsaylaw02_TermUnifies.bits8 (fun HT_ HW_ => ?_)
   generalize w98.drew = w99 at HO_7 HO_187004 HO212 BK173 BK174 BK186 BK213 HB hHeld ⊢
   refine pure_ (i := 1) (N := some 69) (v := ?_) (a' := ?_) #[false, true, false, false, false, false, false, false, false, false, false, false, false, false, false, false, false] rfl rfl (any_of HT_.out (by kernel_rfl)) (fun _ _ _ h => h) (Or.inl ⟨by rfl, ?_⟩) ?_ ?_
   rotate_left
   · intro w'
     go_simp
     with_reducible rfl
   rotate_left
   · simp only [Act.put, List.setIfInBounds_toArray, List.set_cons_zero, List.set_cons_succ, i64_w, i32_w]
     rfl
   refine take_ (i := 0) (N := some 68) (v := ?_) (a' := ?_) #[true, true, false, false, false, false, false, false, false, false, false, false, false, false, false, false, false] rfl rfl (take_ofW HT_.out HW_.out (by kernel_rfl)) (fun _ _ _ h => h) (Or.inl ⟨by rfl, ?_⟩) hHeld ?_ ?_
   rotate_left
   · rintro w' ⟨s0, s1, s2, s3, s4, s5, s6, s7, s8, s9, s10, s11, s12, s13, s14⟩
     go_simp
     with_reducible rfl
   rotate_left
   · simp only [Act.put, List.setIfInBounds_toArray, List.set_cons_zero, List.set_cons_succ, i64_w, i32_w]
     rfl
   refine take_ (i := 2) (N := some 70) (v := ?_) (a' := ?_) #[true, true, true, false, false, false, false, false, false, false, false, false, false, false, false, false, false] rfl rfl (take_ofW HT_.out HW_.out (by kernel_rfl)) (fun _ _ _ h => h) (Or.inl ⟨by rfl, ?_⟩) hHeld ?_ ?_
   rotate_left
   · rintro w' ⟨s0, s1, s2, s3, s4, s5, s6, s7, s8, s9, s10, s11, s12, s13, s14⟩
     go_simp
     with_reducible rfl
   rotate_left
   · simp only [Act.put, List.setIfInBounds_toArray, List.set_cons_zero, List.set_cons_succ, i64_w, i32_w]
     rfl
   refine one_ (i := 3) (N := some 71) #[true, true, true, true, false, false, false, false, false, false, false, false, false, false, false, false, false] rfl rfl (one_of HT_.out (by kernel_rfl)) (by decide) (fun K hK => ?_)
   refine goes_ Tryd.func23 (by kernel_rfl) rfl #[.slice A2 l2.length c2, .agg #[.int .i64 a1_0, .int .i64 a1_1, .string a1_2, .string a1_3, .slice A1_4 l1_4.length c1_4]] (by rfl) rfl rfl (by (try simp only [List.map_toArray, List.map_cons, List.map_nil]); first | done | rfl | (simp only [List.length_drop, List.length_take]; rfl)) ?_
   with_reducible refine (term_Apply.calls kj69 _ _ l2 a1_0 a1_1 a1_2 a1_3 _ _ l1_4 t214 t215 t216 t217 t218 _ ?side1 ?side2 ?side3 ?side4 ?side5 A85.out).mono ?_
   (case side1 => repeat (first | exact (Kd.C_below HR2.out HB.out) | (with_reducible refine Kd.C_alloc ?_ _) | (with_reducible refine Kd.C_drewN ?_ _) | (with_reducible refine Kd.C_drew ?_)))
   (case side2 => exact HC2.out)
   (case side3 => repeat (first | exact (Kd.C_below HR1_4.out HB.out) | (with_reducible refine Kd.C_alloc ?_ _) | (with_reducible refine Kd.C_drewN ?_ _) | (with_reducible refine Kd.C_drew ?_)))
   (case side4 => exact HC1_4.out)
   (case side5 => exact Laid2.up HLD2.out (by repeat (first | (with_reducible first | exact HB.out | apply qf | apply qn | apply qe | refine qd ?_ GE173.out | refine qd ?_ GE174.out | refine qd ?_ GE186.out | refine qd ?_ GE213.out) | exact HB.out)))
   rintro e w100 ⟨v219, rfl, ho0, hb⟩
   refine ⟨_, rfl, ?_⟩
   have n0_ := Aside0.mk (Kd.R_below (by (with_reducible repeat (first | apply qz | apply qx | apply qy)); exact HO_7.out) hb)
   have n1_ := Aside0.mk (Kd.R_elder' (by (with_reducible repeat (first | apply qz | apply qx | apply qy)); exact HO_187004.out) (Kd.R_base ho0) hb)
   have n2_ := Aside0.mk (Kd.R_elder' (by (with_reducible repeat (first | apply qz | apply qx | apply qy)); exact HO212.out) (Kd.R_base ho0) hb)
   have n3_ := Aside0.mk (Kd.R_lower (Kd.R_new' (Kd.R_new' ho0 (Kd.R_lt (by (with_reducible repeat (first | apply qz | apply qx | apply qy)); exact HO_187004.out))) (Kd.R_lt (by (with_reducible repeat (first | apply qz | apply qx | apply qy)); exact HO212.out))) (below_size (by repeat (first | (with_reducible first | exact HB.out | apply qf | apply qn | apply qe | refine qd ?_ GE173.out | refine qd ?_ GE174.out | refine qd ?_ GE186.out | refine qd ?_ GE213.out) | exact HB.out))))
   have n4_ := Aside0.mk (qw (g := gb173) (o := .cells #[.int .i64 a0_0, .int .i64 a0_1, .string a0_2, .string a0_3, .slice A0_4 l0_4.length c0_4] 26 (0, 0)) (by (with_reducible repeat (first | refine qa ?_ _ | refine qb ?_ | refine qc ?_ _)); exact BK173.out) hb)
   have n5_ := Aside0.mk (qw (g := gb174) (o := .cells #[.int .i64 a1_0, .int .i64 a1_1, .string a1_2, .string a1_3, .slice A1_4 l1_4.length c1_4] 26 (0, 0)) (by (with_reducible repeat (first | refine qa ?_ _ | refine qb ?_ | refine qc ?_ _)); exact BK174.out) hb)
   have n6_ := Aside0.mk (qw (g := gb186) (o := .cells #[.int .i64 t179, .int .i64 t180, .string t181, .string t182, .slice Ao20 t183.length co20] 26 (0, 0)) (by (with_reducible repeat (first | refine qa ?_ _ | refine qb ?_ | refine qc ?_ _)); exact BK186.out) hb)
   have n7_ := Aside0.mk (qw (g := gb213) (o := .cells #[.int .i64 t206, .int .i64 t207, .string t208, .string t209, .slice Ao84 t210.length co84] 26 (0, 0)) (by (with_reducible repeat (first | refine qa ?_ _ | refine qb ?_ | refine qc ?_ _)); exact BK213.out) hb)
   have n8_ := Aside0.mk (below_step (by repeat (first | (with_reducible first | exact HB.out | apply qf | apply qn | apply qe | refine qd ?_ GE173.out | refine qd ?_ GE174.out | refine qd ?_ GE186.out | refine qd ?_ GE213.out) | exact HB.out)) hb)
   clear HO_7
   clear HO_187004
   clear HO212
   clear BK173
   clear BK174
   clear BK186
   clear BK213
   clear HB
   have HO_7 := n0_
   have HO_187004 := n1_
   have HO212 := n2_
   have HO220 := n3_
   have BK173 := n4_
   have BK174 := n5_
   have BK186 := n6_
   have BK213 := n7_
   have HB := n8_
   clear n0_ n1_ n2_ n3_ n4_ n5_ n6_ n7_ n8_
   (try clear hb)
   (try clear hb2)
   (try clear hk)
   (try clear hi)
   (try clear ho0)
   obtain ⟨Ao101, co101, eo101⟩ := Kd.R_slice HO220.out
   (first | subst eo101 | (injection eo101 with f1_ f2_ f3_; have f4_ := f1_.symm; have f5_ := f3_.symm; clear f1_ f2_ f3_; subst f4_; subst f5_))
   refine hK.out _ _ ⟨(qh BK213.out 0).trans rfl, (qh BK213.out 1).trans rfl, (qh BK213.out 2).trans rfl, (qh BK213.out 3).trans rfl, (qh BK213.out 4).trans rfl, (qh BK174.out 0).trans rfl, (qh BK174.out 1).trans rfl, (qh BK174.out 2).trans rfl, (qh BK174.out 3).trans rfl, (qh BK174.out 4).trans rfl, (qh BK173.out 0).trans rfl, (qh BK173.out 1).trans rfl, (qh BK173.out 2).trans rfl, (qh BK173.out 3).trans rfl, (qh BK173.out 4).trans rfl⟩ (fun hHeld => ?_)
   clear hK K
   refine norm_ (a' := ?_) ?_ ?_
   rotate_left
   · show Act.put _ (some 71) _ = _
     simp only [Act.put, List.setIfInBounds_toArray, List.set_cons_zero, List.set_cons_succ, i64_w, i32_w]
     rfl
   refine one_ (i := 4) (N := some 72) #[true, true, true, true, true, false, false, false, false, false, false, false, false, false, false, false, false] rfl rfl (one_of HT_.out (by kernel_rfl)) (by decide) (fun K hK => ?_)
   refine goes_ Tryd.func22 (by kernel_rfl) rfl #[.agg #[.int .i64 t206, .int .i64 t207, .string t208, .string t209, .slice Ao84 t210.length co84], .agg #[.int .i64 t214, .int .i64 t215, .string t216, .string t217, .slice Ao101 t218.length co101]] (by rfl) rfl rfl (by (try simp only [List.map_toArray, List.map_cons, List.map_nil]); first | done | rfl | (simp only [List.length_drop, List.length_take]; rfl)) ?_
   with_reducible refine (hearsaylaw02_same.calls kj69 t206 t207 t208 t209 _ _ t210 t214 t215 t216 t217 _ _ t218 true _ ?side1 ?side2 ?side3 ?side4 A86.out).mono ?_
   (case side1 => repeat (first | exact (Kd.R_reads' HO212.out).2.2 | (with_reducible refine Kd.C_alloc ?_ _) | (with_reducible refine Kd.C_drewN ?_ _) | (with_reducible refine Kd.C_drew ?_)))
   (case side2 => exact (Kd.R_reads' HO212.out).2.1)
   (case side3 => repeat (first | exact (Kd.R_reads' HO220.out).2.2 | (with_reducible refine Kd.C_alloc ?_ _) | (with_reducible refine Kd.C_drewN ?_ _) | (with_reducible refine Kd.C_drew ?_)))
   (case side4 => exact (Kd.R_reads' HO220.out).2.1)
   rintro e w102 ⟨rfl, hb⟩
   refine ⟨_, rfl, ?_⟩
   have n0_ := Aside0.mk (Kd.R_below (by (with_reducible repeat (first | apply qz | apply qx | apply qy)); exact HO_7.out) hb)
   have n1_ := Aside0.mk (Kd.R_below (by (with_reducible repeat (first | apply qz | apply qx | apply qy)); exact HO_187004.out) hb)
   have n2_ := Aside0.mk (Kd.R_below (by (with_reducible repeat (first | apply qz | apply qx | apply qy)); exact HO212.out) hb)
   have n3_ := Aside0.mk (Kd.R_below (by (with_reducible repeat (first | apply qz | apply qx | apply qy)); exact HO220.out) hb)
   have n4_ := Aside0.mk (qw (g := gb173) (o := .cells #[.int .i64 a0_0, .int .i64 a0_1, .string a0_2, .string a0_3, .slice A0_4 l0_4.length c0_4] 26 (0, 0)) (by (with_reducible repeat (first | refine qa ?_ _ | refine qb ?_ | refine qc ?_ _)); exact BK173.out) hb)
   have n5_ := Aside0.mk (qw (g := gb174) (o := .cells #[.int .i64 a1_0, .int .i64 a1_1, .string a1_2, .string a1_3, .slice A1_4 l1_4.length c1_4] 26 (0, 0)) (by (with_reducible repeat (first | refine qa ?_ _ | refine qb ?_ | refine qc ?_ _)); exact BK174.out) hb)
   have n6_ := Aside0.mk (qw (g := gb186) (o := .cells #[.int .i64 t179, .int .i64 t180, .string t181, .string t182, .slice Ao20 t183.length co20] 26 (0, 0)) (by (with_reducible repeat (first | refine qa ?_ _ | refine qb ?_ | refine qc ?_ _)); exact BK186.out) hb)
   have n7_ := Aside0.mk (qw (g := gb213) (o := .cells #[.int .i64 t206, .int .i64 t207, .string t208, .string t209, .slice Ao84 t210.length co84] 26 (0, 0)) (by (with_reducible repeat (first | refine qa ?_ _ | refine qb ?_ | refine qc ?_ _)); exact BK213.out) hb)
   have n8_ := Aside0.mk (below_step (by repeat (first | (with_reducible first | exact HB.out | apply qf | apply qn | apply qe | refine qd ?_ GE173.out | refine qd ?_ GE174.out | refine qd ?_ GE186.out | refine qd ?_ GE213.out) | exact HB.out)) hb)
   clear HO_7
   clear HO_187004
   clear HO212
   clear HO220
   clear BK173
   clear BK174
   clear BK186
   clear BK213
   clear HB
   have HO_7 := n0_
   have HO_187004 := n1_
   have HO212 := n2_
   have HO220 := n3_
   have BK173 := n4_
   have BK174 := n5_
   have BK186 := n6_
   have BK213 := n7_
   have HB := n8_
   clear n0_ n1_ n2_ n3_ n4_ n5_ n6_ n7_ n8_
   (try clear hb)
   (try clear hb2)
   (try clear hk)
   (try clear hi)
   refine hK.out _ _ ⟨(qh BK213.out 0).trans rfl, (qh BK213.out 1).trans rfl, (qh BK213.out 2).trans rfl, (qh BK213.out 3).trans rfl, (qh BK213.out 4).trans rfl, (qh BK174.out 0).trans rfl, (qh BK174.out 1).trans rfl, (qh BK174.out 2).trans rfl, (qh BK174.out 3).trans rfl, (qh BK174.out 4).trans rfl, (qh BK173.out 0).trans rfl, (qh BK173.out 1).trans rfl, (qh BK173.out 2).trans rfl, (qh BK173.out 3).trans rfl, (qh BK173.out 4).trans rfl⟩ (fun hHeld => ?_)
   clear hK K
   refine norm_ (a' := ?_) ?_ ?_
   rotate_left
   · show Act.put _ (some 72) _ = _
     simp only [Act.put, List.setIfInBounds_toArray, List.set_cons_zero, List.set_cons_succ, i64_w, i32_w]
     rfl
   refine pure_ (i := 5) (N := some 73) (v := ?_) (a' := ?_) #[true, true, true, true, true, true, false, false, false, false, false, false, false, false, false, false, false] rfl rfl (any_of HT_.out (by kernel_rfl)) (fun _ _ _ h => h) (Or.inl ⟨by rfl, ?_⟩) ?_ ?_
   rotate_left
   · intro w'
     go_simp
     with_reducible rfl
   rotate_left
   · simp only [Act.put, List.setIfInBounds_toArray, List.set_cons_zero, List.set_cons_succ, i64_w, i32_w]
     rfl
   refine pure_ (i := 6) (N := some 74) (v := ?_) (a' := ?_) #[true, true, true, true, true, true, true, false, false, false, false, false, false, false, false, false, false] rfl rfl (any_of HT_.out (by kernel_rfl)) (fun _ _ _ h => h) (Or.inl ⟨by rfl, ?_⟩) ?_ ?_
   rotate_left
   · intro w'
     go_simp
     with_reducible rfl
   rotate_left
   · simp only [Act.put, List.setIfInBounds_toArray, List.set_cons_zero, List.set_cons_succ, i64_w, i32_w]
     rfl
   refine pure_ (i := 7) (N := some 75) (v := ?_) (a' := ?_) #[true, true, true, true, true, true, true, true, false, false, false, false, false, false, false, false, false] rfl rfl (any_of HT_.out (by kernel_rfl)) (fun _ _ _ h => h) (Or.inl ⟨by rfl, ?_⟩) ?_ ?_
   rotate_left
   · intro w'
     go_simp
     with_reducible rfl
   rotate_left
   · simp only [Act.put, List.setIfInBounds_toArray, List.set_cons_zero, List.set_cons_succ, i64_w, i32_w]
     rfl
   refine take_ (i := 8) (N := some 76) (v := ?_) (a' := ?_) #[true, true, true, true, true, true, true, true, true, false, false, false, false, false, false, false, false] rfl rfl (take_ofW HT_.out HW_.out (by kernel_rfl)) (fun _ _ _ h => h) (Or.inl ⟨by rfl, ?_⟩) hHeld ?_ ?_
   rotate_left
   · rintro w' ⟨s0, s1, s2, s3, s4, s5, s6, s7, s8, s9, s10, s11, s12, s13, s14⟩
     go_simp
     with_reducible rfl
   rotate_left
   · simp only [Act.put, List.setIfInBounds_toArray, List.set_cons_zero, List.set_cons_succ, i64_w, i32_w]
     rfl
   refine one_ (i := 9) (N := some 77) #[true, true, true, true, true, true, true, true, true, true, false, false, false, false, false, false, false] rfl rfl (one_of HT_.out (by kernel_rfl)) (by decide) (fun K hK => ?_)
   refine goes_ Tryd.func38 (by kernel_rfl) rfl #[.slice A2 l2.length c2, .agg #[.int .i64 a0_0, .int .i64 a0_1, .string a0_2]] (by rfl) rfl rfl (by (try simp only [List.map_toArray, List.map_cons, List.map_nil]); first | done | rfl | (simp only [List.length_drop, List.length_take]; rfl)) ?_
   with_reducible refine (hearsaylaw02_fits.calls kj69 _ _ l2 a0_0 a0_1 a0_2 false _ ?side1 ?side2 ?side3 A88.out).mono ?_
   (case side1 => repeat (first | exact (Kd.C_below HR2.out HB.out) | (with_reducible refine Kd.C_alloc ?_ _) | (with_reducible refine Kd.C_drewN ?_ _) | (with_reducible refine Kd.C_drew ?_)))
   (case side2 => exact HC2.out)
   (case side3 => exact Laid2.up HLD2.out (by repeat (first | (with_reducible first | exact HB.out | apply qf | apply qn | apply qe | refine qd ?_ GE173.out | refine qd ?_ GE174.out | refine qd ?_ GE186.out | refine qd ?_ GE213.out) | exact HB.out)))
   rintro e w103 ⟨rfl, hb⟩
   refine ⟨_, rfl, ?_⟩
   have n0_ := Aside0.mk (Kd.R_below (by (with_reducible repeat (first | apply qz | apply qx | apply qy)); exact HO_7.out) hb)
   have n1_ := Aside0.mk (Kd.R_below (by (with_reducible repeat (first | apply qz | apply qx | apply qy)); exact HO_187004.out) hb)
   have n2_ := Aside0.mk (Kd.R_below (by (with_reducible repeat (first | apply qz | apply qx | apply qy)); exact HO212.out) hb)
   have n3_ := Aside0.mk (Kd.R_below (by (with_reducible repeat (first | apply qz | apply qx | apply qy)); exact HO220.out) hb)
   have n4_ := Aside0.mk (qw (g := gb173) (o := .cells #[.int .i64 a0_0, .int .i64 a0_1, .string a0_2, .string a0_3, .slice A0_4 l0_4.length c0_4] 26 (0, 0)) (by (with_reducible repeat (first | refine qa ?_ _ | refine qb ?_ | refine qc ?_ _)); exact BK173.out) hb)
   have n5_ := Aside0.mk (qw (g := gb174) (o := .cells #[.int .i64 a1_0, .int .i64 a1_1, .string a1_2, .string a1_3, .slice A1_4 l1_4.length c1_4] 26 (0, 0)) (by (with_reducible repeat (first | refine qa ?_ _ | refine qb ?_ | refine qc ?_ _)); exact BK174.out) hb)
   have n6_ := Aside0.mk (qw (g := gb186) (o := .cells #[.int .i64 t179, .int .i64 t180, .string t181, .string t182, .slice Ao20 t183.length co20] 26 (0, 0)) (by (with_reducible repeat (first | refine qa ?_ _ | refine qb ?_ | refine qc ?_ _)); exact BK186.out) hb)
   have n7_ := Aside0.mk (qw (g := gb213) (o := .cells #[.int .i64 t206, .int .i64 t207, .string t208, .string t209, .slice Ao84 t210.length co84] 26 (0, 0)) (by (with_reducible repeat (first | refine qa ?_ _ | refine qb ?_ | refine qc ?_ _)); exact BK213.out) hb)
   have n8_ := Aside0.mk (below_step (by repeat (first | (with_reducible first | exact HB.out | apply qf | apply qn | apply qe | refine qd ?_ GE173.out | refine qd ?_ GE174.out | refine qd ?_ GE186.out | refine qd ?_ GE213.out) | exact HB.out)) hb)
   clear HO_7
   clear HO_187004
   clear HO212
   clear HO220
   clear BK173
   clear BK174
   clear BK186
   clear BK213
   clear HB
   have HO_7 := n0_
   have HO_187004 := n1_
   have HO212 := n2_
   have HO220 := n3_
   have BK173 := n4_
   have BK174 := n5_
   have BK186 := n6_
   have BK213 := n7_
   have HB := n8_
   clear n0_ n1_ n2_ n3_ n4_ n5_ n6_ n7_ n8_
   (try clear hb)
   (try clear hb2)
   (try clear hk)
   (try clear hi)
   refine hK.out _ _ ⟨(qh BK213.out 0).trans rfl, (qh BK213.out 1).trans rfl, (qh BK213.out 2).trans rfl, (qh BK213.out 3).trans rfl, (qh BK213.out 4).trans rfl, (qh BK174.out 0).trans rfl, (qh BK174.out 1).trans rfl, (qh BK174.out 2).trans rfl, (qh BK174.out 3).trans rfl, (qh BK174.out 4).trans rfl, (qh BK173.out 0).trans rfl, (qh BK173.out 1).trans rfl, (qh BK173.out 2).trans rfl, (qh BK173.out 3).trans rfl, (qh BK173.out 4).trans rfl⟩ (fun hHeld => ?_)
   clear hK K
   refine norm_ (a' := ?_) ?_ ?_
   rotate_left
   · show Act.put _ (some 77) _ = _
     simp only [Act.put, List.setIfInBounds_toArray, List.set_cons_zero, List.set_cons_succ, i64_w, i32_w]
     rfl
   refine pure_ (i := 10) (N := some 78) (v := ?_) (a' := ?_) #[true, true, true, true, true, true, true, true, true, true, true, false, false, false, false, false, false] rfl rfl (any_of HT_.out (by kernel_rfl)) (fun _ _ _ h => h) (Or.inl ⟨by rfl, ?_⟩) ?_ ?_
   rotate_left
   · intro w'
     go_simp
     with_reducible rfl
   rotate_left
   · simp only [Act.put, List.setIfInBounds_toArray, List.set_cons_zero, List.set_cons_succ, i64_w, i32_w]
     rfl
   refine pure_ (i := 11) (N := some 79) (v := ?_) (a' := ?_) #[true, true, true, true, true, true, true, true, true, true, true, true, false, false, false, false, false] rfl rfl (any_of HT_.out (by kernel_rfl)) (fun _ _ _ h => h) (Or.inl ⟨by rfl, ?_⟩) ?_ ?_
   rotate_left
   · intro w'
     go_simp
     with_reducible rfl
   rotate_left
   · simp only [Act.put, List.setIfInBounds_toArray, List.set_cons_zero, List.set_cons_succ, i64_w, i32_w]
     rfl
   refine pure_ (i := 12) (N := some 80) (v := undef) (a' := ?_) #[true, true, true, true, true, true, true, true, true, true, true, true, true, false, false, false, false] rfl rfl (any_of HT_.out (by kernel_rfl)) (fun _ _ _ h => h) (Or.inr ⟨by rfl, rfl⟩) ?_ ?_
   rotate_left
   · simp only [Act.put, List.setIfInBounds_toArray, List.set_cons_zero, List.set_cons_succ, i64_w, i32_w]
     rfl
   refine pure_ (i := 13) (N := some 81) (v := undef) (a' := ?_) #[true, true, true, true, true, true, true, true, true, true, true, true, true, true, false, false, false] rfl rfl (any_of HT_.out (by kernel_rfl)) (fun _ _ _ h => h) (Or.inr ⟨by rfl, rfl⟩) ?_ ?_
   rotate_left
   · simp only [Act.put, List.setIfInBounds_toArray, List.set_cons_zero, List.set_cons_succ, i64_w, i32_w]
     rfl
   refine pure_ (i := 14) (N := some 82) (v := undef) (a' := ?_) #[true, true, true, true, true, true, true, true, true, true, true, true, true, true, true, false, false] rfl rfl (any_of HT_.out (by kernel_rfl)) (fun _ _ _ h => h) (Or.inr ⟨by rfl, rfl⟩) ?_ ?_
   rotate_left
   · simp only [Act.put, List.setIfInBounds_toArray, List.set_cons_zero, List.set_cons_succ, i64_w, i32_w]
     rfl
   refine pure_ (i := 15) (N := some 83) (v := undef) (a' := ?_) #[true, true, true, true, true, true, true, true, true, true, true, true, true, true, true, true, false] rfl rfl (any_of HT_.out (by kernel_rfl)) (fun _ _ _ h => h) (Or.inr ⟨by rfl, rfl⟩) ?_ ?_
   rotate_left
   · simp only [Act.put, List.setIfInBounds_toArray, List.set_cons_zero, List.set_cons_succ, i64_w, i32_w]
     rfl
   refine pure_ (i := 16) (N := some 84) (v := ?_) (a' := ?_) #[true, true, true, true, true, true, true, true, true, true, true, true, true, true, true, true, true] rfl rfl (any_of HT_.out (by kernel_rfl)) (fun _ _ _ h => h) (Or.inl ⟨by rfl, ?_⟩) ?_ ?_
   rotate_left
   · intro w'
     go_simp
     with_reducible rfl
   rotate_left
   · simp only [Act.put, List.setIfInBounds_toArray, List.set_cons_zero, List.set_cons_succ, i64_w, i32_w]
     rfl
   refine done_ (done_of HT_.out (by kernel_rfl)) ?_
   try go_wp2
   go_meet
   exact ⟨_, (false), (by first | rfl | (simp; done) | (simp [*]; done)), H', ⟨by have := HJ5.out; have := HJ69.out; first | omega | exact Nat.le_refl _⟩, ⟨by (with_reducible repeat (first | apply qz | apply qx | apply qy)); exact HO_7.out⟩, ⟨by (with_reducible repeat (first | apply qz | apply qx | apply qy)); exact Kd.R_mono HO_187004.out (fun _ hk => hk.1)⟩, ⟨by (with_reducible repeat (first | apply qz | apply qx | apply qy)); exact Kd.R_mono HO212.out (fun _ hk => hk.1)⟩, ⟨by (with_reducible repeat (first | refine qa ?_ _ | refine qb ?_ | refine qc ?_ _)); exact BK173.out⟩, ⟨by (with_reducible repeat (first | refine qa ?_ _ | refine qb ?_ | refine qc ?_ _)); exact BK174.out⟩, ⟨by (with_reducible repeat (first | refine qa ?_ _ | refine qb ?_ | refine qc ?_ _)); exact BK186.out⟩, ⟨by (with_reducible repeat (first | refine qa ?_ _ | refine qb ?_ | refine qc ?_ _)); exact BK213.out⟩, ⟨by repeat (first | (with_reducible first | exact HB.out | apply qf | apply qn | apply qe | refine qd ?_ GE173.out | refine qd ?_ GE174.out | refine qd ?_ GE186.out | refine qd ?_ GE213.out) | exact HB.out)⟩⟩
  subst c89
  have H1 : ((hearsaylaw02_fits.f kj69 l2 a1_0 a1_1 a1_2).bind fun t223 => (hearsaylaw02_TermUnifies.j2 kj69 l2 t175 t178 t223 a0_0 a0_1 a0_2 a0_3 l0_4 a1_0 a1_1 a1_2 a1_3 l1_4 t179 t180 t181 t182 t183 t206 t207 t208 t209 t210)) = some r := by rw [if_pos rfl] at H; exact H
  clear H
  have H := H1
  clear H1
  replace H := Option.bind_eq_some_iff.mp H
  obtain ⟨t223, A900, H⟩ := H
  replace H : (hearsaylaw02_TermUnifies.j2 kj69 l2 t175 t178 t223 a0_0 a0_1 a0_2 a0_3 l0_4 a1_0 a1_1 a1_2 a1_3 l1_4 t179 t180 t181 t182 t183 t206 t207 t208 t209 t210) = some r := H
  have A90 := Aside0.mk A900
  clear A900
  have H' := Aside0.mk H
  clear H
  try go_wp2
  have n0_ : Aside0 (Kd.R k44 44 (((((w79.setCell ⟨gb213, 0, none⟩ (.int .i64 t206)).setCell ⟨gb213, 1, none⟩ (.int .i64 t207)).setCell ⟨gb213, 2, none⟩ (.string t208)).setCell ⟨gb213, 3, none⟩ (.string t209)).setCell ⟨gb213, 4, none⟩ (.slice Ao84 t210.length co84)) w.heap.size (fun _ => True) (.slice Ao14 t175.length co14) t175) := ⟨by (with_reducible repeat (first | apply qz | apply qx | apply qy)); exact Kd.R_mono (Kd.R_far (p := ⟨gb213, 4, none⟩) (Kd.R_far (p := ⟨gb213, 3, none⟩) (Kd.R_far (p := ⟨gb213, 2, none⟩) (Kd.R_far (p := ⟨gb213, 1, none⟩) (Kd.R_far (p := ⟨gb213, 0, none⟩) (Kd.R_types HO_7.out BK213.out (by decide)) (fun _ hk => hk.2) (.int .i64 t206)) (fun _ hk => hk.2) (.int .i64 t207)) (fun _ hk => hk.2) (.string t208)) (fun _ hk => hk.2) (.string t209)) (fun _ hk => hk.2) (.slice Ao84 t210.length co84)) (fun _ hk => trivial)⟩
  have n1_ : Aside0 (Kd.R k23 23 (((((w79.setCell ⟨gb213, 0, none⟩ (.int .i64 t206)).setCell ⟨gb213, 1, none⟩ (.int .i64 t207)).setCell ⟨gb213, 2, none⟩ (.string t208)).setCell ⟨gb213, 3, none⟩ (.string t209)).setCell ⟨gb213, 4, none⟩ (.slice Ao84 t210.length co84)) w.heap.size (fun k_ => some k_ ≠ (.slice Ao84 t210.length co84 : Value).ownBlock) (.slice Ao20 t183.length co20) t183) := ⟨by (with_reducible repeat (first | apply qz | apply qx | apply qy)); exact Kd.R_mono (Kd.R_far (p := ⟨gb213, 4, none⟩) (Kd.R_far (p := ⟨gb213, 3, none⟩) (Kd.R_far (p := ⟨gb213, 2, none⟩) (Kd.R_far (p := ⟨gb213, 1, none⟩) (Kd.R_far (p := ⟨gb213, 0, none⟩) (Kd.R_types HO_187004.out BK213.out (by decide)) (fun _ hk => hk.2) (.int .i64 t206)) (fun _ hk => hk.2) (.int .i64 t207)) (fun _ hk => hk.2) (.string t208)) (fun _ hk => hk.2) (.string t209)) (fun _ hk => hk.2) (.slice Ao84 t210.length co84)) (fun _ hk => hk.1.2)⟩
  have n2_ : Aside0 (Kd.R k23 23 (((((w79.setCell ⟨gb213, 0, none⟩ (.int .i64 t206)).setCell ⟨gb213, 1, none⟩ (.int .i64 t207)).setCell ⟨gb213, 2, none⟩ (.string t208)).setCell ⟨gb213, 3, none⟩ (.string t209)).setCell ⟨gb213, 4, none⟩ (.slice Ao84 t210.length co84)) w.heap.size (fun k_ => some k_ ≠ (.slice Ao20 t183.length co20 : Value).ownBlock) (.slice Ao84 t210.length co84) t210) := ⟨by (with_reducible repeat (first | apply qz | apply qx | apply qy)); exact Kd.R_mono (Kd.R_far (p := ⟨gb213, 4, none⟩) (Kd.R_far (p := ⟨gb213, 3, none⟩) (Kd.R_far (p := ⟨gb213, 2, none⟩) (Kd.R_far (p := ⟨gb213, 1, none⟩) (Kd.R_far (p := ⟨gb213, 0, none⟩) (Kd.R_types HO212.out BK213.out (by decide)) (fun _ hk => hk.2) (.int .i64 t206)) (fun _ hk => hk.2) (.int .i64 t207)) (fun _ hk => hk.2) (.string t208)) (fun _ hk => hk.2) (.string t209)) (fun _ hk => hk.2) (.slice Ao84 t210.length co84)) (fun _ hk => hk.1.2)⟩
  have n3_ : Aside0 ((((((w79.setCell ⟨gb213, 0, none⟩ (.int .i64 t206)).setCell ⟨gb213, 1, none⟩ (.int .i64 t207)).setCell ⟨gb213, 2, none⟩ (.string t208)).setCell ⟨gb213, 3, none⟩ (.string t209)).setCell ⟨gb213, 4, none⟩ (.slice Ao84 t210.length co84)).heap[gb173]? = some (.cells #[.int .i64 a0_0, .int .i64 a0_1, .string a0_2, .string a0_3, .slice A0_4 l0_4.length c0_4] 26 (0, 0))) := ⟨by (with_reducible repeat (first | refine qa ?_ _ | refine qb ?_ | refine qc ?_ _)); refine blk_far ?_ NB173_213.out _; (with_reducible repeat (first | refine qa ?_ _ | refine qb ?_ | refine qc ?_ _)); refine blk_far ?_ NB173_213.out _; (with_reducible repeat (first | refine qa ?_ _ | refine qb ?_ | refine qc ?_ _)); refine blk_far ?_ NB173_213.out _; (with_reducible repeat (first | refine qa ?_ _ | refine qb ?_ | refine qc ?_ _)); refine blk_far ?_ NB173_213.out _; (with_reducible repeat (first | refine qa ?_ _ | refine qb ?_ | refine qc ?_ _)); refine blk_far ?_ NB173_213.out _; (with_reducible repeat (first | refine qa ?_ _ | refine qb ?_ | refine qc ?_ _)); exact BK173.out⟩
  have n4_ : Aside0 ((((((w79.setCell ⟨gb213, 0, none⟩ (.int .i64 t206)).setCell ⟨gb213, 1, none⟩ (.int .i64 t207)).setCell ⟨gb213, 2, none⟩ (.string t208)).setCell ⟨gb213, 3, none⟩ (.string t209)).setCell ⟨gb213, 4, none⟩ (.slice Ao84 t210.length co84)).heap[gb174]? = some (.cells #[.int .i64 a1_0, .int .i64 a1_1, .string a1_2, .string a1_3, .slice A1_4 l1_4.length c1_4] 26 (0, 0))) := ⟨by (with_reducible repeat (first | refine qa ?_ _ | refine qb ?_ | refine qc ?_ _)); refine blk_far ?_ NB174_213.out _; (with_reducible repeat (first | refine qa ?_ _ | refine qb ?_ | refine qc ?_ _)); refine blk_far ?_ NB174_213.out _; (with_reducible repeat (first | refine qa ?_ _ | refine qb ?_ | refine qc ?_ _)); refine blk_far ?_ NB174_213.out _; (with_reducible repeat (first | refine qa ?_ _ | refine qb ?_ | refine qc ?_ _)); refine blk_far ?_ NB174_213.out _; (with_reducible repeat (first | refine qa ?_ _ | refine qb ?_ | refine qc ?_ _)); refine blk_far ?_ NB174_213.out _; (with_reducible repeat (first | refine qa ?_ _ | refine qb ?_ | refine qc ?_ _)); exact BK174.out⟩
  have n5_ : Aside0 ((((((w79.setCell ⟨gb213, 0, none⟩ (.int .i64 t206)).setCell ⟨gb213, 1, none⟩ (.int .i64 t207)).setCell ⟨gb213, 2, none⟩ (.string t208)).setCell ⟨gb213, 3, none⟩ (.string t209)).setCell ⟨gb213, 4, none⟩ (.slice Ao84 t210.length co84)).heap[gb186]? = some (.cells #[.int .i64 t179, .int .i64 t180, .string t181, .string t182, .slice Ao20 t183.length co20] 26 (0, 0))) := ⟨by (with_reducible repeat (first | refine qa ?_ _ | refine qb ?_ | refine qc ?_ _)); refine blk_far ?_ NB186_213.out _; (with_reducible repeat (first | refine qa ?_ _ | refine qb ?_ | refine qc ?_ _)); refine blk_far ?_ NB186_213.out _; (with_reducible repeat (first | refine qa ?_ _ | refine qb ?_ | refine qc ?_ _)); refine blk_far ?_ NB186_213.out _; (with_reducible repeat (first | refine qa ?_ _ | refine qb ?_ | refine qc ?_ _)); refine blk_far ?_ NB186_213.out _; (with_reducible repeat (first | refine qa ?_ _ | refine qb ?_ | refine qc ?_ _)); refine blk_far ?_ NB186_213.out _; (with_reducible repeat (first | refine qa ?_ _ | refine qb ?_ | refine qc ?_ _)); exact BK186.out⟩
  have n6_ : Aside0 ((((((w79.setCell ⟨gb213, 0, none⟩ (.int .i64 t206)).setCell ⟨gb213, 1, none⟩ (.int .i64 t207)).setCell ⟨gb213, 2, none⟩ (.string t208)).setCell ⟨gb213, 3, none⟩ (.string t209)).setCell ⟨gb213, 4, none⟩ (.slice Ao84 t210.length co84)).heap[gb213]? = some (.cells #[.int .i64 t206, .int .i64 t207, .string t208, .string t209, .slice Ao84 t210.length co84] 26 (0, 0))) := ⟨by (with_reducible repeat (first | refine qa ?_ _ | refine qb ?_ | refine qc ?_ _)); refine blk_put (cs := #[.int .i64 t206, .int .i64 t207, .string t208, .string t209, .slice none 0 0]) ?_ 4 _ rfl; (with_reducible repeat (first | refine qa ?_ _ | refine qb ?_ | refine qc ?_ _)); refine blk_put (cs := #[.int .i64 t206, .int .i64 t207, .string t208, .string (⟨#[]⟩ : ByteArray), .slice none 0 0]) ?_ 3 _ rfl; (with_reducible repeat (first | refine qa ?_ _ | refine qb ?_ | refine qc ?_ _)); refine blk_put (cs := #[.int .i64 t206, .int .i64 t207, .string (⟨#[]⟩ : ByteArray), .string (⟨#[]⟩ : ByteArray), .slice none 0 0]) ?_ 2 _ rfl; (with_reducible repeat (first | refine qa ?_ _ | refine qb ?_ | refine qc ?_ _)); refine blk_put (cs := #[.int .i64 t206, .int .i64 0, .string (⟨#[]⟩ : ByteArray), .string (⟨#[]⟩ : ByteArray), .slice none 0 0]) ?_ 1 _ rfl; (with_reducible repeat (first | refine qa ?_ _ | refine qb ?_ | refine qc ?_ _)); refine blk_put (cs := #[.int .i64 0, .int .i64 0, .string (⟨#[]⟩ : ByteArray), .string (⟨#[]⟩ : ByteArray), .slice none 0 0]) ?_ 0 _ rfl; (with_reducible repeat (first | refine qa ?_ _ | refine qb ?_ | refine qc ?_ _)); exact BK213.out⟩
  have n7_ : Aside0 (Below w.heap.size w (((((w79.setCell ⟨gb213, 0, none⟩ (.int .i64 t206)).setCell ⟨gb213, 1, none⟩ (.int .i64 t207)).setCell ⟨gb213, 2, none⟩ (.string t208)).setCell ⟨gb213, 3, none⟩ (.string t209)).setCell ⟨gb213, 4, none⟩ (.slice Ao84 t210.length co84))) := ⟨by repeat (first | (with_reducible first | exact HB.out | apply qf | apply qn | apply qe | refine qd ?_ GE173.out | refine qd ?_ GE174.out | refine qd ?_ GE186.out | refine qd ?_ GE213.out) | exact HB.out)⟩
  (try clear HO_7)
  (try clear HO_187004)
  (try clear HO212)
  (try clear BK173)
  (try clear BK174)
  (try clear BK186)
  (try clear BK213)
  (try clear HB)
  generalize (((((w79.setCell ⟨gb213, 0, none⟩ (.int .i64 t206)).setCell ⟨gb213, 1, none⟩ (.int .i64 t207)).setCell ⟨gb213, 2, none⟩ (.string t208)).setCell ⟨gb213, 3, none⟩ (.string t209)).setCell ⟨gb213, 4, none⟩ (.slice Ao84 t210.length co84)) = w91 at n0_ n1_ n2_ n3_ n4_ n5_ n6_ n7_ ⊢
  have HO_7 := n0_
  have HO_187004 := n1_
  have HO212 := n2_
  have BK173 := n3_
  have BK174 := n4_
  have BK186 := n5_
  have BK213 := n6_
  have HB := n7_
  clear n0_ n1_ n2_ n3_ n4_ n5_ n6_ n7_
  have n0_ := Aside0.mk (qy HO_7.out)
  have n1_ := Aside0.mk (qy HO_187004.out)
  have n2_ := Aside0.mk (qy HO212.out)
  have n3_ := Aside0.mk (qb BK173.out)
  have n4_ := Aside0.mk (qb BK174.out)
  have n5_ := Aside0.mk (qb BK186.out)
  have n6_ := Aside0.mk (qb BK213.out)
  have n7_ := Aside0.mk (qe HB.out)
  clear HO_7
  clear HO_187004
  clear HO212
  clear BK173
  clear BK174
  clear BK186
  clear BK213
  clear HB
  have HO_7 := n0_
  have HO_187004 := n1_
  have HO212 := n2_
  have BK173 := n3_
  have BK174 := n4_
  have BK186 := n5_
  have BK213 := n6_
  have HB := n7_
  clear n0_ n1_ n2_ n3_ n4_ n5_ n6_ n7_
  refine start_ (n := 17) (S := fun w' => w'.cell? ⟨gb213, 0, none⟩ = some (.int .i64 t206) ∧ w'.cell? ⟨gb213, 1, none⟩ = some (.int .i64 t207) ∧ w'.cell? ⟨gb213, 2, none⟩ = some (.string t208) ∧ w'.cell? ⟨gb213, 3, none⟩ = some (.string t209) ∧ w'.cell? ⟨gb213, 4, none⟩ = some (.slice Ao84 t210.length co84) ∧ w'.cell? ⟨gb174, 0, none⟩ = some (.int .i64 a1_0) ∧ w'.cell? ⟨gb174, 1, none⟩ = some (.int .i64 a1_1) ∧ w'.cell? ⟨gb174, 2, none⟩ = some (.string a1_2) ∧ w'.cell? ⟨gb174, 3, none⟩ = some (.string a1_3) ∧ w'.cell? ⟨gb174, 4, none⟩ = some (.slice A1_4 l1_4.length c1_4) ∧ w'.cell? ⟨gb173, 0, none⟩ = some (.int .i64 a0_0) ∧ w'.cell? ⟨gb173, 1, none⟩ = some (.int .i64 a0_1) ∧ w'.cell? ⟨gb173, 2, none⟩ = some (.string a0_2) ∧ w'.cell? ⟨gb173, 3, none⟩ = some (.string a0_3) ∧ w'.cell? ⟨gb173, 4, none⟩ = some (.slice A0_4 l0_4.length c0_4)) (ds := []) #[false, false, false, false, false, false, false, false, false, false, false, false, false, false, false, false, false] (by kernel_rfl) rfl rfl ⟨(qh BK213.out 0).trans rfl, (qh BK213.out 1).trans rfl, (qh BK213.out 2).trans rfl, (qh BK213.out 3).trans rfl, (qh BK213.out 4).trans rfl, (qh BK174.out 0).trans rfl, (qh BK174.out 1).trans rfl, (qh BK174.out 2).trans rfl, (qh BK174.out 3).trans rfl, (qh BK174.out 4).trans rfl, (qh BK173.out 0).trans rfl, (qh BK173.out 1).trans rfl, (qh BK173.out 2).trans rfl, (qh BK173.out 3).trans rfl, (qh BK173.out 4).trans rfl⟩ (fun hHeld => ?_); refine with_tabW hearsaylaw02_TermUnifies.tab8 hearsaylaw02_TermUnifies.bits8 (fun HT_ HW_ => ?_)
  generalize w91.drew = w92 at HO_7 HO_187004 HO212 BK173 BK174 BK186 BK213 HB hHeld ⊢
  refine pure_ (i := 1) (N := some 69) (v := ?_) (a' := ?_) #[false, true, false, false, false, false, false, false, false, false, false, false, false, false, false, false, false] rfl rfl (any_of HT_.out (by kernel_rfl)) (fun _ _ _ h => h) (Or.inl ⟨by rfl, ?_⟩) ?_ ?_
  rotate_left
  · intro w'
    go_simp
    with_reducible rfl
  rotate_left
  · simp only [Act.put, List.setIfInBounds_toArray, List.set_cons_zero, List.set_cons_succ, i64_w, i32_w]
    rfl
  refine take_ (i := 0) (N := some 68) (v := ?_) (a' := ?_) #[true, true, false, false, false, false, false, false, false, false, false, false, false, false, false, false, false] rfl rfl (take_ofW HT_.out HW_.out (by kernel_rfl)) (fun _ _ _ h => h) (Or.inl ⟨by rfl, ?_⟩) hHeld ?_ ?_
  rotate_left
  · rintro w' ⟨s0, s1, s2, s3, s4, s5, s6, s7, s8, s9, s10, s11, s12, s13, s14⟩
    go_simp
    with_reducible rfl
  rotate_left
  · simp only [Act.put, List.setIfInBounds_toArray, List.set_cons_zero, List.set_cons_succ, i64_w, i32_w]
    rfl
  refine take_ (i := 2) (N := some 70) (v := ?_) (a' := ?_) #[true, true, true, false, false, false, false, false, false, false, false, false, false, false, false, false, false] rfl rfl (take_ofW HT_.out HW_.out (by kernel_rfl)) (fun _ _ _ h => h) (Or.inl ⟨by rfl, ?_⟩) hHeld ?_ ?_
  rotate_left
  · rintro w' ⟨s0, s1, s2, s3, s4, s5, s6, s7, s8, s9, s10, s11, s12, s13, s14⟩
    go_simp
    with_reducible rfl
  rotate_left
  · simp only [Act.put, List.setIfInBounds_toArray, List.set_cons_zero, List.set_cons_succ, i64_w, i32_w]
    rfl
  refine one_ (i := 3) (N := some 71) #[true, true, true, true, false, false, false, false, false, false, false, false, false, false, false, false, false] rfl rfl (one_of HT_.out (by kernel_rfl)) (by decide) (fun K hK => ?_)
  refine goes_ Tryd.func23 (by kernel_rfl) rfl #[.slice A2 l2.length c2, .agg #[.int .i64 a1_0, .int .i64 a1_1, .string a1_2, .string a1_3, .slice A1_4 l1_4.length c1_4]] (by rfl) rfl rfl (by (try simp only [List.map_toArray, List.map_cons, List.map_nil]); first | done | rfl | (simp only [List.length_drop, List.length_take]; rfl)) ?_
  with_reducible refine (term_Apply.calls kj69 _ _ l2 a1_0 a1_1 a1_2 a1_3 _ _ l1_4 t214 t215 t216 t217 t218 _ ?side1 ?side2 ?side3 ?side4 ?side5 A85.out).mono ?_
  (case side1 => repeat (first | exact (Kd.C_below HR2.out HB.out) | (with_reducible refine Kd.C_alloc ?_ _) | (with_reducible refine Kd.C_drewN ?_ _) | (with_reducible refine Kd.C_drew ?_)))
  (case side2 => exact HC2.out)
  (case side3 => repeat (first | exact (Kd.C_below HR1_4.out HB.out) | (with_reducible refine Kd.C_alloc ?_ _) | (with_reducible refine Kd.C_drewN ?_ _) | (with_reducible refine Kd.C_drew ?_)))
  (case side4 => exact HC1_4.out)
  (case side5 => exact Laid2.up HLD2.out (by repeat (first | (with_reducible first | exact HB.out | apply qf | apply qn | apply qe | refine qd ?_ GE173.out | refine qd ?_ GE174.out | refine qd ?_ GE186.out | refine qd ?_ GE213.out) | exact HB.out)))
  rintro e w93 ⟨v219, rfl, ho0, hb⟩
  refine ⟨_, rfl, ?_⟩
  have n0_ := Aside0.mk (Kd.R_below (by (with_reducible repeat (first | apply qz | apply qx | apply qy)); exact HO_7.out) hb)
  have n1_ := Aside0.mk (Kd.R_elder' (by (with_reducible repeat (first | apply qz | apply qx | apply qy)); exact HO_187004.out) (Kd.R_base ho0) hb)
  have n2_ := Aside0.mk (Kd.R_elder' (by (with_reducible repeat (first | apply qz | apply qx | apply qy)); exact HO212.out) (Kd.R_base ho0) hb)
  have n3_ := Aside0.mk (Kd.R_lower (Kd.R_new' (Kd.R_new' ho0 (Kd.R_lt (by (with_reducible repeat (first | apply qz | apply qx | apply qy)); exact HO_187004.out))) (Kd.R_lt (by (with_reducible repeat (first | apply qz | apply qx | apply qy)); exact HO212.out))) (below_size (by repeat (first | (with_reducible first | exact HB.out | apply qf | apply qn | apply qe | refine qd ?_ GE173.out | refine qd ?_ GE174.out | refine qd ?_ GE186.out | refine qd ?_ GE213.out) | exact HB.out))))
  have n4_ := Aside0.mk (qw (g := gb173) (o := .cells #[.int .i64 a0_0, .int .i64 a0_1, .string a0_2, .string a0_3, .slice A0_4 l0_4.length c0_4] 26 (0, 0)) (by (with_reducible repeat (first | refine qa ?_ _ | refine qb ?_ | refine qc ?_ _)); exact BK173.out) hb)
  have n5_ := Aside0.mk (qw (g := gb174) (o := .cells #[.int .i64 a1_0, .int .i64 a1_1, .string a1_2, .string a1_3, .slice A1_4 l1_4.length c1_4] 26 (0, 0)) (by (with_reducible repeat (first | refine qa ?_ _ | refine qb ?_ | refine qc ?_ _)); exact BK174.out) hb)
  have n6_ := Aside0.mk (qw (g := gb186) (o := .cells #[.int .i64 t179, .int .i64 t180, .string t181, .string t182, .slice Ao20 t183.length co20] 26 (0, 0)) (by (with_reducible repeat (first | refine qa ?_ _ | refine qb ?_ | refine qc ?_ _)); exact BK186.out) hb)
  have n7_ := Aside0.mk (qw (g := gb213) (o := .cells #[.int .i64 t206, .int .i64 t207, .string t208, .string t209, .slice Ao84 t210.length co84] 26 (0, 0)) (by (with_reducible repeat (first | refine qa ?_ _ | refine qb ?_ | refine qc ?_ _)); exact BK213.out) hb)
  have n8_ := Aside0.mk (below_step (by repeat (first | (with_reducible first | exact HB.out | apply qf | apply qn | apply qe | refine qd ?_ GE173.out | refine qd ?_ GE174.out | refine qd ?_ GE186.out | refine qd ?_ GE213.out) | exact HB.out)) hb)
  clear HO_7
  clear HO_187004
  clear HO212
  clear BK173
  clear BK174
  clear BK186
  clear BK213
  clear HB
  have HO_7 := n0_
  have HO_187004 := n1_
  have HO212 := n2_
  have HO220 := n3_
  have BK173 := n4_
  have BK174 := n5_
  have BK186 := n6_
  have BK213 := n7_
  have HB := n8_
  clear n0_ n1_ n2_ n3_ n4_ n5_ n6_ n7_ n8_
  (try clear hb)
  (try clear hb2)
  (try clear hk)
  (try clear hi)
  (try clear ho0)
  obtain ⟨Ao94, co94, eo94⟩ := Kd.R_slice HO220.out
  (first | subst eo94 | (injection eo94 with f1_ f2_ f3_; have f4_ := f1_.symm; have f5_ := f3_.symm; clear f1_ f2_ f3_; subst f4_; subst f5_))
  refine hK.out _ _ ⟨(qh BK213.out 0).trans rfl, (qh BK213.out 1).trans rfl, (qh BK213.out 2).trans rfl, (qh BK213.out 3).trans rfl, (qh BK213.out 4).trans rfl, (qh BK174.out 0).trans rfl, (qh BK174.out 1).trans rfl, (qh BK174.out 2).trans rfl, (qh BK174.out 3).trans rfl, (qh BK174.out 4).trans rfl, (qh BK173.out 0).trans rfl, (qh BK173.out 1).trans rfl, (qh BK173.out 2).trans rfl, (qh BK173.out 3).trans rfl, (qh BK173.out 4).trans rfl⟩ (fun hHeld => ?_)
  clear hK K
  refine norm_ (a' := ?_) ?_ ?_
  rotate_left
  · show Act.put _ (some 71) _ = _
    simp only [Act.put, List.setIfInBounds_toArray, List.set_cons_zero, List.set_cons_succ, i64_w, i32_w]
    rfl
  refine one_ (i := 4) (N := some 72) #[true, true, true, true, true, false, false, false, false, false, false, false, false, false, false, false, false] rfl rfl (one_of HT_.out (by kernel_rfl)) (by decide) (fun K hK => ?_)
  refine goes_ Tryd.func22 (by kernel_rfl) rfl #[.agg #[.int .i64 t206, .int .i64 t207, .string t208, .string t209, .slice Ao84 t210.length co84], .agg #[.int .i64 t214, .int .i64 t215, .string t216, .string t217, .slice Ao94 t218.length co94]] (by rfl) rfl rfl (by (try simp only [List.map_toArray, List.map_cons, List.map_nil]); first | done | rfl | (simp only [List.length_drop, List.length_take]; rfl)) ?_
  with_reducible refine (hearsaylaw02_same.calls kj69 t206 t207 t208 t209 _ _ t210 t214 t215 t216 t217 _ _ t218 true _ ?side1 ?side2 ?side3 ?side4 A86.out).mono ?_
  (case side1 => repeat (first | exact (Kd.R_reads' HO212.out).2.2 | (with_reducible refine Kd.C_alloc ?_ _) | (with_reducible refine Kd.C_drewN ?_ _) | (with_reducible refine Kd.C_drew ?_)))
  (case side2 => exact (Kd.R_reads' HO212.out).2.1)
  (case side3 => repeat (first | exact (Kd.R_reads' HO220.out).2.2 | (with_reducible refine Kd.C_alloc ?_ _) | (with_reducible refine Kd.C_drewN ?_ _) | (with_reducible refine Kd.C_drew ?_)))
  (case side4 => exact (Kd.R_reads' HO220.out).2.1)
  rintro e w95 ⟨rfl, hb⟩
  refine ⟨_, rfl, ?_⟩
  have n0_ := Aside0.mk (Kd.R_below (by (with_reducible repeat (first | apply qz | apply qx | apply qy)); exact HO_7.out) hb)
  have n1_ := Aside0.mk (Kd.R_below (by (with_reducible repeat (first | apply qz | apply qx | apply qy)); exact HO_187004.out) hb)
  have n2_ := Aside0.mk (Kd.R_below (by (with_reducible repeat (first | apply qz | apply qx | apply qy)); exact HO212.out) hb)
  have n3_ := Aside0.mk (Kd.R_below (by (with_reducible repeat (first | apply qz | apply qx | apply qy)); exact HO220.out) hb)
  have n4_ := Aside0.mk (qw (g := gb173) (o := .cells #[.int .i64 a0_0, .int .i64 a0_1, .string a0_2, .string a0_3, .slice A0_4 l0_4.length c0_4] 26 (0, 0)) (by (with_reducible repeat (first | refine qa ?_ _ | refine qb ?_ | refine qc ?_ _)); exact BK173.out) hb)
  have n5_ := Aside0.mk (qw (g := gb174) (o := .cells #[.int .i64 a1_0, .int .i64 a1_1, .string a1_2, .string a1_3, .slice A1_4 l1_4.length c1_4] 26 (0, 0)) (by (with_reducible repeat (first | refine qa ?_ _ | refine qb ?_ | refine qc ?_ _)); exact BK174.out) hb)
  have n6_ := Aside0.mk (qw (g := gb186) (o := .cells #[.int .i64 t179, .int .i64 t180, .string t181, .string t182, .slice Ao20 t183.length co20] 26 (0, 0)) (by (with_reducible repeat (first | refine qa ?_ _ | refine qb ?_ | refine qc ?_ _)); exact BK186.out) hb)
  have n7_ := Aside0.mk (qw (g := gb213) (o := .cells #[.int .i64 t206, .int .i64 t207, .string t208, .string t209, .slice Ao84 t210.length co84] 26 (0, 0)) (by (with_reducible repeat (first | refine qa ?_ _ | refine qb ?_ | refine qc ?_ _)); exact BK213.out) hb)
  have n8_ := Aside0.mk (below_step (by repeat (first | (with_reducible first | exact HB.out | apply qf | apply qn | apply qe | refine qd ?_ GE173.out | refine qd ?_ GE174.out | refine qd ?_ GE186.out | refine qd ?_ GE213.out) | exact HB.out)) hb)
  clear HO_7
  clear HO_187004
  clear HO212
  clear HO220
  clear BK173
  clear BK174
  clear BK186
  clear BK213
  clear HB
  have HO_7 := n0_
  have HO_187004 := n1_
  have HO212 := n2_
  have HO220 := n3_
  have BK173 := n4_
  have BK174 := n5_
  have BK186 := n6_
  have BK213 := n7_
  have HB := n8_
  clear n0_ n1_ n2_ n3_ n4_ n5_ n6_ n7_ n8_
  (try clear hb)
  (try clear hb2)
  (try clear hk)
  (try clear hi)
  refine hK.out _ _ ⟨(qh BK213.out 0).trans rfl, (qh BK213.out 1).trans rfl, (qh BK213.out 2).trans rfl, (qh BK213.out 3).trans rfl, (qh BK213.out 4).trans rfl, (qh BK174.out 0).trans rfl, (qh BK174.out 1).trans rfl, (qh BK174.out 2).trans rfl, (qh BK174.out 3).trans rfl, (qh BK174.out 4).trans rfl, (qh BK173.out 0).trans rfl, (qh BK173.out 1).trans rfl, (qh BK173.out 2).trans rfl, (qh BK173.out 3).trans rfl, (qh BK173.out 4).trans rfl⟩ (fun hHeld => ?_)
  clear hK K
  refine norm_ (a' := ?_) ?_ ?_
  rotate_left
  · show Act.put _ (some 72) _ = _
    simp only [Act.put, List.setIfInBounds_toArray, List.set_cons_zero, List.set_cons_succ, i64_w, i32_w]
    rfl
  refine pure_ (i := 5) (N := some 73) (v := ?_) (a' := ?_) #[true, true, true, true, true, true, false, false, false, false, false, false, false, false, false, false, false] rfl rfl (any_of HT_.out (by kernel_rfl)) (fun _ _ _ h => h) (Or.inl ⟨by rfl, ?_⟩) ?_ ?_
  rotate_left
  · intro w'
    go_simp
    with_reducible rfl
  rotate_left
  · simp only [Act.put, List.setIfInBounds_toArray, List.set_cons_zero, List.set_cons_succ, i64_w, i32_w]
    rfl
  refine pure_ (i := 6) (N := some 74) (v := ?_) (a' := ?_) #[true, true, true, true, true, true, true, false, false, false, false, false, false, false, false, false, false] rfl rfl (any_of HT_.out (by kernel_rfl)) (fun _ _ _ h => h) (Or.inl ⟨by rfl, ?_⟩) ?_ ?_
  rotate_left
  · intro w'
    go_simp
    with_reducible rfl
  rotate_left
  · simp only [Act.put, List.setIfInBounds_toArray, List.set_cons_zero, List.set_cons_succ, i64_w, i32_w]
    rfl
  refine pure_ (i := 7) (N := some 75) (v := ?_) (a' := ?_) #[true, true, true, true, true, true, true, true, false, false, false, false, false, false, false, false, false] rfl rfl (any_of HT_.out (by kernel_rfl)) (fun _ _ _ h => h) (Or.inl ⟨by rfl, ?_⟩) ?_ ?_
  rotate_left
  · intro w'
    go_simp
    with_reducible rfl
  rotate_left
  · simp only [Act.put, List.setIfInBounds_toArray, List.set_cons_zero, List.set_cons_succ, i64_w, i32_w]
    rfl
  refine take_ (i := 8) (N := some 76) (v := ?_) (a' := ?_) #[true, true, true, true, true, true, true, true, true, false, false, false, false, false, false, false, false] rfl rfl (take_ofW HT_.out HW_.out (by kernel_rfl)) (fun _ _ _ h => h) (Or.inl ⟨by rfl, ?_⟩) hHeld ?_ ?_
  rotate_left
  · rintro w' ⟨s0, s1, s2, s3, s4, s5, s6, s7, s8, s9, s10, s11, s12, s13, s14⟩
    go_simp
    with_reducible rfl
  rotate_left
  · simp only [Act.put, List.setIfInBounds_toArray, List.set_cons_zero, List.set_cons_succ, i64_w, i32_w]
    rfl
  refine one_ (i := 9) (N := some 77) #[true, true, true, true, true, true, true, true, true, true, false, false, false, false, false, false, false] rfl rfl (one_of HT_.out (by kernel_rfl)) (by decide) (fun K hK => ?_)
  refine goes_ Tryd.func38 (by kernel_rfl) rfl #[.slice A2 l2.length c2, .agg #[.int .i64 a0_0, .int .i64 a0_1, .string a0_2]] (by rfl) rfl rfl (by (try simp only [List.map_toArray, List.map_cons, List.map_nil]); first | done | rfl | (simp only [List.length_drop, List.length_take]; rfl)) ?_
  with_reducible refine (hearsaylaw02_fits.calls kj69 _ _ l2 a0_0 a0_1 a0_2 true _ ?side1 ?side2 ?side3 A88.out).mono ?_
  (case side1 => repeat (first | exact (Kd.C_below HR2.out HB.out) | (with_reducible refine Kd.C_alloc ?_ _) | (with_reducible refine Kd.C_drewN ?_ _) | (with_reducible refine Kd.C_drew ?_)))
  (case side2 => exact HC2.out)
  (case side3 => exact Laid2.up HLD2.out (by repeat (first | (with_reducible first | exact HB.out | apply qf | apply qn | apply qe | refine qd ?_ GE173.out | refine qd ?_ GE174.out | refine qd ?_ GE186.out | refine qd ?_ GE213.out) | exact HB.out)))
  rintro e w96 ⟨rfl, hb⟩
  refine ⟨_, rfl, ?_⟩
  have n0_ := Aside0.mk (Kd.R_below (by (with_reducible repeat (first | apply qz | apply qx | apply qy)); exact HO_7.out) hb)
  have n1_ := Aside0.mk (Kd.R_below (by (with_reducible repeat (first | apply qz | apply qx | apply qy)); exact HO_187004.out) hb)
  have n2_ := Aside0.mk (Kd.R_below (by (with_reducible repeat (first | apply qz | apply qx | apply qy)); exact HO212.out) hb)
  have n3_ := Aside0.mk (Kd.R_below (by (with_reducible repeat (first | apply qz | apply qx | apply qy)); exact HO220.out) hb)
  have n4_ := Aside0.mk (qw (g := gb173) (o := .cells #[.int .i64 a0_0, .int .i64 a0_1, .string a0_2, .string a0_3, .slice A0_4 l0_4.length c0_4] 26 (0, 0)) (by (with_reducible repeat (first | refine qa ?_ _ | refine qb ?_ | refine qc ?_ _)); exact BK173.out) hb)
  have n5_ := Aside0.mk (qw (g := gb174) (o := .cells #[.int .i64 a1_0, .int .i64 a1_1, .string a1_2, .string a1_3, .slice A1_4 l1_4.length c1_4] 26 (0, 0)) (by (with_reducible repeat (first | refine qa ?_ _ | refine qb ?_ | refine qc ?_ _)); exact BK174.out) hb)
  have n6_ := Aside0.mk (qw (g := gb186) (o := .cells #[.int .i64 t179, .int .i64 t180, .string t181, .string t182, .slice Ao20 t183.length co20] 26 (0, 0)) (by (with_reducible repeat (first | refine qa ?_ _ | refine qb ?_ | refine qc ?_ _)); exact BK186.out) hb)
  have n7_ := Aside0.mk (qw (g := gb213) (o := .cells #[.int .i64 t206, .int .i64 t207, .string t208, .string t209, .slice Ao84 t210.length co84] 26 (0, 0)) (by (with_reducible repeat (first | refine qa ?_ _ | refine qb ?_ | refine qc ?_ _)); exact BK213.out) hb)
  have n8_ := Aside0.mk (below_step (by repeat (first | (with_reducible first | exact HB.out | apply qf | apply qn | apply qe | refine qd ?_ GE173.out | refine qd ?_ GE174.out | refine qd ?_ GE186.out | refine qd ?_ GE213.out) | exact HB.out)) hb)
  clear HO_7
  clear HO_187004
  clear HO212
  clear HO220
  clear BK173
  clear BK174
  clear BK186
  clear BK213
  clear HB
  have HO_7 := n0_
  have HO_187004 := n1_
  have HO212 := n2_
  have HO220 := n3_
  have BK173 := n4_
  have BK174 := n5_
  have BK186 := n6_
  have BK213 := n7_
  have HB := n8_
  clear n0_ n1_ n2_ n3_ n4_ n5_ n6_ n7_ n8_
  (try clear hb)
  (try clear hb2)
  (try clear hk)
  (try clear hi)
  refine hK.out _ _ ⟨(qh BK213.out 0).trans rfl, (qh BK213.out 1).trans rfl, (qh BK213.out 2).trans rfl, (qh BK213.out 3).trans rfl, (qh BK213.out 4).trans rfl, (qh BK174.out 0).trans rfl, (qh BK174.out 1).trans rfl, (qh BK174.out 2).trans rfl, (qh BK174.out 3).trans rfl, (qh BK174.out 4).trans rfl, (qh BK173.out 0).trans rfl, (qh BK173.out 1).trans rfl, (qh BK173.out 2).trans rfl, (qh BK173.out 3).trans rfl, (qh BK173.out 4).trans rfl⟩ (fun hHeld => ?_)
  clear hK K
  refine norm_ (a' := ?_) ?_ ?_
  rotate_left
  · show Act.put _ (some 77) _ = _
    simp only [Act.put, List.setIfInBounds_toArray, List.set_cons_zero, List.set_cons_succ, i64_w, i32_w]
    rfl
  refine pure_ (i := 10) (N := some 78) (v := ?_) (a' := ?_) #[true, true, true, true, true, true, true, true, true, true, true, false, false, false, false, false, false] rfl rfl (any_of HT_.out (by kernel_rfl)) (fun _ _ _ h => h) (Or.inl ⟨by rfl, ?_⟩) ?_ ?_
  rotate_left
  · intro w'
    go_simp
    with_reducible rfl
  rotate_left
  · simp only [Act.put, List.setIfInBounds_toArray, List.set_cons_zero, List.set_cons_succ, i64_w, i32_w]
    rfl
  refine pure_ (i := 11) (N := some 79) (v := ?_) (a' := ?_) #[true, true, true, true, true, true, true, true, true, true, true, true, false, false, false, false, false] rfl rfl (any_of HT_.out (by kernel_rfl)) (fun _ _ _ h => h) (Or.inl ⟨by rfl, ?_⟩) ?_ ?_
  rotate_left
  · intro w'
    go_simp
    with_reducible rfl
  rotate_left
  · simp only [Act.put, List.setIfInBounds_toArray, List.set_cons_zero, List.set_cons_succ, i64_w, i32_w]
    rfl
  refine pure_ (i := 12) (N := some 80) (v := ?_) (a' := ?_) #[true, true, true, true, true, true, true, true, true, true, true, true, true, false, false, false, false] rfl rfl (any_of HT_.out (by kernel_rfl)) (fun _ _ _ h => h) (Or.inl ⟨by rfl, ?_⟩) ?_ ?_
  rotate_left
  · intro w'
    go_simp
    with_reducible rfl
  rotate_left
  · simp only [Act.put, List.setIfInBounds_toArray, List.set_cons_zero, List.set_cons_succ, i64_w, i32_w]
    rfl
  refine pure_ (i := 13) (N := some 81) (v := ?_) (a' := ?_) #[true, true, true, true, true, true, true, true, true, true, true, true, true, true, false, false, false] rfl rfl (any_of HT_.out (by kernel_rfl)) (fun _ _ _ h => h) (Or.inl ⟨by rfl, ?_⟩) ?_ ?_
  rotate_left
  · intro w'
    go_simp
    with_reducible rfl
  rotate_left
  · simp only [Act.put, List.setIfInBounds_toArray, List.set_cons_zero, List.set_cons_succ, i64_w, i32_w]
    rfl
  refine take_ (i := 14) (N := some 82) (v := ?_) (a' := ?_) #[true, true, true, true, true, true, true, true, true, true, true, true, true, true, true, false, false] rfl rfl (take_ofW HT_.out HW_.out (by kernel_rfl)) (fun _ _ _ h => h) (Or.inl ⟨by rfl, ?_⟩) hHeld ?_ ?_
  rotate_left
  · rintro w' ⟨s0, s1, s2, s3, s4, s5, s6, s7, s8, s9, s10, s11, s12, s13, s14⟩
    go_simp
    with_reducible rfl
  rotate_left
  · simp only [Act.put, List.setIfInBounds_toArray, List.set_cons_zero, List.set_cons_succ, i64_w, i32_w]
    rfl
  refine one_ (i := 15) (N := some 83) #[true, true, true, true, true, true, true, true, true, true, true, true, true, true, true, true, false] rfl rfl (one_of HT_.out (by kernel_rfl)) (by decide) (fun K hK => ?_)
  refine goes_ Tryd.func38 (by kernel_rfl) rfl #[.slice A2 l2.length c2, .agg #[.int .i64 a1_0, .int .i64 a1_1, .string a1_2]] (by rfl) rfl rfl (by (try simp only [List.map_toArray, List.map_cons, List.map_nil]); first | done | rfl | (simp only [List.length_drop, List.length_take]; rfl)) ?_
  with_reducible refine (hearsaylaw02_fits.calls kj69 _ _ l2 a1_0 a1_1 a1_2 t223 _ ?side1 ?side2 ?side3 A90.out).mono ?_
  (case side1 => repeat (first | exact (Kd.C_below HR2.out HB.out) | (with_reducible refine Kd.C_alloc ?_ _) | (with_reducible refine Kd.C_drewN ?_ _) | (with_reducible refine Kd.C_drew ?_)))
  (case side2 => exact HC2.out)
  (case side3 => exact Laid2.up HLD2.out (by repeat (first | (with_reducible first | exact HB.out | apply qf | apply qn | apply qe | refine qd ?_ GE173.out | refine qd ?_ GE174.out | refine qd ?_ GE186.out | refine qd ?_ GE213.out) | exact HB.out)))
  rintro e w97 ⟨rfl, hb⟩
  refine ⟨_, rfl, ?_⟩
  have n0_ := Aside0.mk (Kd.R_below (by (with_reducible repeat (first | apply qz | apply qx | apply qy)); exact HO_7.out) hb)
  have n1_ := Aside0.mk (Kd.R_below (by (with_reducible repeat (first | apply qz | apply qx | apply qy)); exact HO_187004.out) hb)
  have n2_ := Aside0.mk (Kd.R_below (by (with_reducible repeat (first | apply qz | apply qx | apply qy)); exact HO212.out) hb)
  have n3_ := Aside0.mk (Kd.R_below (by (with_reducible repeat (first | apply qz | apply qx | apply qy)); exact HO220.out) hb)
  have n4_ := Aside0.mk (qw (g := gb173) (o := .cells #[.int .i64 a0_0, .int .i64 a0_1, .string a0_2, .string a0_3, .slice A0_4 l0_4.length c0_4] 26 (0, 0)) (by (with_reducible repeat (first | refine qa ?_ _ | refine qb ?_ | refine qc ?_ _)); exact BK173.out) hb)
  have n5_ := Aside0.mk (qw (g := gb174) (o := .cells #[.int .i64 a1_0, .int .i64 a1_1, .string a1_2, .string a1_3, .slice A1_4 l1_4.length c1_4] 26 (0, 0)) (by (with_reducible repeat (first | refine qa ?_ _ | refine qb ?_ | refine qc ?_ _)); exact BK174.out) hb)
  have n6_ := Aside0.mk (qw (g := gb186) (o := .cells #[.int .i64 t179, .int .i64 t180, .string t181, .string t182, .slice Ao20 t183.length co20] 26 (0, 0)) (by (with_reducible repeat (first | refine qa ?_ _ | refine qb ?_ | refine qc ?_ _)); exact BK186.out) hb)
  have n7_ := Aside0.mk (qw (g := gb213) (o := .cells #[.int .i64 t206, .int .i64 t207, .string t208, .string t209, .slice Ao84 t210.length co84] 26 (0, 0)) (by (with_reducible repeat (first | refine qa ?_ _ | refine qb ?_ | refine qc ?_ _)); exact BK213.out) hb)
  have n8_ := Aside0.mk (below_step (by repeat (first | (with_reducible first | exact HB.out | apply qf | apply qn | apply qe | refine qd ?_ GE173.out | refine qd ?_ GE174.out | refine qd ?_ GE186.out | refine qd ?_ GE213.out) | exact HB.out)) hb)
  clear HO_7
  clear HO_187004
  clear HO212
  clear HO220
  clear BK173
  clear BK174
  clear BK186
  clear BK213
  clear HB
  have HO_7 := n0_
  have HO_187004 := n1_
  have HO212 := n2_
  have HO220 := n3_
  have BK173 := n4_
  have BK174 := n5_
  have BK186 := n6_
  have BK213 := n7_
  have HB := n8_
  clear n0_ n1_ n2_ n3_ n4_ n5_ n6_ n7_ n8_
  (try clear hb)
  (try clear hb2)
  (try clear hk)
  (try clear hi)
  refine hK.out _ _ ⟨(qh BK213.out 0).trans rfl, (qh BK213.out 1).trans rfl, (qh BK213.out 2).trans rfl, (qh BK213.out 3).trans rfl, (qh BK213.out 4).trans rfl, (qh BK174.out 0).trans rfl, (qh BK174.out 1).trans rfl, (qh BK174.out 2).trans rfl, (qh BK174.out 3).trans rfl, (qh BK174.out 4).trans rfl, (qh BK173.out 0).trans rfl, (qh BK173.out 1).trans rfl, (qh BK173.out 2).trans rfl, (qh BK173.out 3).trans rfl, (qh BK173.out 4).trans rfl⟩ (fun hHeld => ?_)
  clear hK K
  refine norm_ (a' := ?_) ?_ ?_
  rotate_left
  · show Act.put _ (some 83) _ = _
    simp only [Act.put, List.setIfInBounds_toArray, List.set_cons_zero, List.set_cons_succ, i64_w, i32_w]
    rfl
  refine pure_ (i := 16) (N := some 84) (v := ?_) (a' := ?_) #[true, true, true, true, true, true, true, true, true, true, true, true, true, true, true, true, true] rfl rfl (any_of HT_.out (by kernel_rfl)) (fun _ _ _ h => h) (Or.inl ⟨by rfl, ?_⟩) ?_ ?_
  rotate_left
  · intro w'
    go_simp
    with_reducible rfl
  rotate_left
  · simp only [Act.put, List.setIfInBounds_toArray, List.set_cons_zero, List.set_cons_succ, i64_w, i32_w]
    rfl
  refine done_ (done_of HT_.out (by kernel_rfl)) ?_
  try go_wp2
  go_meet
  exact ⟨_, (t223), (by first | rfl | (simp; done) | (simp [*]; done)), H', ⟨by have := HJ5.out; have := HJ69.out; first | omega | exact Nat.le_refl _⟩, ⟨by (with_reducible repeat (first | apply qz | apply qx | apply qy)); exact HO_7.out⟩, ⟨by (with_reducible repeat (first | apply qz | apply qx | apply qy)); exact Kd.R_mono HO_187004.out (fun _ hk => hk.1)⟩, ⟨by (with_reducible repeat (first | apply qz | apply qx | apply qy)); exact Kd.R_mono HO212.out (fun _ hk => hk.1)⟩, ⟨by (with_reducible repeat (first | refine qa ?_ _ | refine qb ?_ | refine qc ?_ _)); exact BK173.out⟩, ⟨by (with_reducible repeat (first | refine qa ?_ _ | refine qb ?_ | refine qc ?_ _)); exact BK174.out⟩, ⟨by (with_reducible repeat (first | refine qa ?_ _ | refine qb ?_ | refine qc ?_ _)); exact BK186.out⟩, ⟨by (with_reducible repeat (first | refine qa ?_ _ | refine qb ?_ | refine qc ?_ _)); exact BK213.out⟩, ⟨by repeat (first | (with_reducible first | exact HB.out | apply qf | apply qn | apply qe | refine qd ?_ GE173.out | refine qd ?_ GE174.out | refine qd ?_ GE186.out | refine qd ?_ GE213.out) | exact HB.out)⟩⟩
 clear HC74
 obtain ⟨kq, x84_73, rfl, HA, HJ73, HO_7, HO_187004, HO_214004, BK173, BK174, BK186, BK213, HB⟩ := hcut
 rcases kq with _ | kj73
 · exact absurd HA.out (by simp [hearsaylaw02_TermUnifies.j2])
 have H := HA.out
 clear HA
 simp only [hearsaylaw02_TermUnifies.j2] at H
 by_cases c109 : x84_73 = true
 rotate_left
 ·
  replace c109 := Bool.eq_false_iff.mpr c109
  subst c109
  have H1 : ((term_Unify.f a1_0 a1_1 a1_2 a1_3 l1_4 a0_0 a0_1 a0_2 a0_3 l0_4).bind fun bt238 => (if (bt238.2 == t178) = true then ((hearsaylaw02_bindings.f kj73 t175 bt238.1).bind fun t242 => (if t242 = true then ((hearsaylaw02_first.f).bind fun t243 => (some t243)) else (some false))) else (some false))) = some r := by rw [if_neg (show ¬ (false = true) by decide)] at H; exact H
  clear H
  have H := H1
  clear H1
  replace H := Option.bind_eq_some_iff.mp H
  obtain ⟨⟨t238, t241⟩, A1520, H⟩ := H
  replace H : (if (t241 == t178) = true then ((hearsaylaw02_bindings.f kj73 t175 t238).bind fun t242 => (if t242 = true then ((hearsaylaw02_first.f).bind fun t243 => (some t243)) else (some false))) else (some false)) = some r := H
  have A152 := Aside0.mk A1520
  clear A1520
  by_cases c153 : (t241 == t178) = true
  rotate_left
  · rw [if_neg c153] at H
    exact absurd H (by rw [HR1.out]; simp)
  rw [if_pos c153] at H
  have c153b0 : (t241 == t178) = true := c153
  (try (have c153b1 : decide (t241 = t178) = true := by simpa using c153))
  (try (have c153b2 : (t241 == t178) = true := by simpa using c153))
  clear c153
  replace H := Option.bind_eq_some_iff.mp H
  obtain ⟨t242, A1540, H⟩ := H
  replace H : (if t242 = true then ((hearsaylaw02_first.f).bind fun t243 => (some t243)) else (some false)) = some r := H
  have A154 := Aside0.mk A1540
  clear A1540
  by_cases c155 : t242 = true
  rotate_left
  · replace c155 := Bool.eq_false_iff.mpr c155
    subst c155
    have H1 : (some false) = some r := by rw [if_neg (show ¬ (false = true) by decide)] at H; exact H
    exact absurd H1 (by rw [HR1.out]; simp)
  subst c155
  have H1 : ((hearsaylaw02_first.f).bind fun t243 => (some t243)) = some r := by rw [if_pos rfl] at H; exact H
  clear H
  have H := H1
  clear H1
  replace H := Option.bind_eq_some_iff.mp H
  obtain ⟨t243, A1560, H⟩ := H
  replace H : (some t243) = some r := H
  have A156 := Aside0.mk A1560
  clear A1560
  obtain rfl := Option.some.inj H
  have hnb157 := NB174_173.out
  have hnc157 := NB173_174.out
  have hnb158 := NB174_186.out
  have hnc158 := NB186_174.out
  have hnb159 := NB174_213.out
  have hnc159 := NB213_174.out
  have hcz160_0 : wc.cell? ⟨gb174, 0, none⟩ = some (.int .i64 a1_0) := (qh BK174.out 0).trans rfl
  have hcz160_1 : wc.cell? ⟨gb174, 1, none⟩ = some (.int .i64 a1_1) := (qh BK174.out 1).trans rfl
  have hcz160_2 : wc.cell? ⟨gb174, 2, none⟩ = some (.string a1_2) := (qh BK174.out 2).trans rfl
  have hcz160_3 : wc.cell? ⟨gb174, 3, none⟩ = some (.string a1_3) := (qh BK174.out 3).trans rfl
  have hcz160_4 : wc.cell? ⟨gb174, 4, none⟩ = some (.slice A1_4 l1_4.length c1_4) := (qh BK174.out 4).trans rfl
  have hfz160_0 := qg BK174.out 0
  have hfz160_1 := qg BK174.out 1
  have hfz160_2 := qg BK174.out 2
  have hfz160_3 := qg BK174.out 3
  have hfz160_4 := qg BK174.out 4
  have hnb161 := NB173_186.out
  have hnc161 := NB186_173.out
  have hnb162 := NB173_213.out
  have hnc162 := NB213_173.out
  have hcz163_0 : wc.cell? ⟨gb173, 0, none⟩ = some (.int .i64 a0_0) := (qh BK173.out 0).trans rfl
  have hcz163_1 : wc.cell? ⟨gb173, 1, none⟩ = some (.int .i64 a0_1) := (qh BK173.out 1).trans rfl
  have hcz163_2 : wc.cell? ⟨gb173, 2, none⟩ = some (.string a0_2) := (qh BK173.out 2).trans rfl
  have hcz163_3 : wc.cell? ⟨gb173, 3, none⟩ = some (.string a0_3) := (qh BK173.out 3).trans rfl
  have hcz163_4 : wc.cell? ⟨gb173, 4, none⟩ = some (.slice A0_4 l0_4.length c0_4) := (qh BK173.out 4).trans rfl
  have hfz163_0 := qg BK173.out 0
  have hfz163_1 := qg BK173.out 1
  have hfz163_2 := qg BK173.out 2
  have hfz163_3 := qg BK173.out 3
  have hfz163_4 := qg BK173.out 4
  go_wp2_with (first | ((with_reducible refine gate_callee (f := 29) rfl ?_); refine goesL_ (some 98) rfl rfl Tryd.func29 (by kernel_rfl) rfl #[.agg #[.int .i64 a1_0, .int .i64 a1_1, .string a1_2, .string a1_3, .slice A1_4 l1_4.length c1_4], .agg #[.int .i64 a0_0, .int .i64 a0_1, .string a0_2, .string a0_3, .slice A0_4 l0_4.length c0_4]] rfl (by (try simp only [List.map_toArray, List.map_cons, List.map_nil]); first | done | rfl | (simp only [List.length_drop, List.length_take]; rfl)) ?_; (with_reducible refine (term_Unify.calls a1_0 a1_1 a1_2 a1_3 _ _ l1_4 a0_0 a0_1 a0_2 a0_3 _ _ l0_4 t238 t241 _ ?side1 ?side2 ?side3 ?side4 A152.out).mono ?_); (case side1 => repeat (first | exact (Kd.C_below HR1_4.out HB.out) | (with_reducible refine Kd.C_alloc ?_ _) | (with_reducible refine Kd.C_drewN ?_ _) | (with_reducible refine Kd.C_drew ?_))); (case side2 => exact HC1_4.out); (case side3 => repeat (first | exact (Kd.C_below HR0_4.out HB.out) | (with_reducible refine Kd.C_alloc ?_ _) | (with_reducible refine Kd.C_drewN ?_ _) | (with_reducible refine Kd.C_drew ?_))); (case side4 => exact HC0_4.out); rintro e w164 ⟨v239, rfl, ho0, hb⟩; refine ⟨_, rfl, ?_⟩; have n0_ := Aside0.mk (Kd.R_elder' (by (with_reducible repeat (first | apply qz | apply qx | apply qy)); exact HO_7.out) (Kd.R_base ho0) hb); have n1_ := Aside0.mk (Kd.R_below (by (with_reducible repeat (first | apply qz | apply qx | apply qy)); exact HO_187004.out) hb); have n2_ := Aside0.mk (Kd.R_below (by (with_reducible repeat (first | apply qz | apply qx | apply qy)); exact HO_214004.out) hb); have n3_ := Aside0.mk (Kd.R_lower (Kd.R_new' ho0 (Kd.R_lt (by (with_reducible repeat (first | apply qz | apply qx | apply qy)); exact HO_7.out))) (below_size (by repeat (first | (with_reducible first | exact HB.out | apply qf | apply qn | apply qe | refine qd ?_ GE173.out | refine qd ?_ GE174.out | refine qd ?_ GE186.out | refine qd ?_ GE213.out) | exact HB.out)))); have n4_ := Aside0.mk (qw (g := gb173) (o := .cells #[.int .i64 a0_0, .int .i64 a0_1, .string a0_2, .string a0_3, .slice A0_4 l0_4.length c0_4] 26 (0, 0)) (by (with_reducible repeat (first | refine qa ?_ _ | refine qb ?_ | refine qc ?_ _)); exact BK173.out) hb); have n5_ := Aside0.mk (qw (g := gb174) (o := .cells #[.int .i64 a1_0, .int .i64 a1_1, .string a1_2, .string a1_3, .slice A1_4 l1_4.length c1_4] 26 (0, 0)) (by (with_reducible repeat (first | refine qa ?_ _ | refine qb ?_ | refine qc ?_ _)); exact BK174.out) hb); have n6_ := Aside0.mk (qw (g := gb186) (o := .cells #[.int .i64 t179, .int .i64 t180, .string t181, .string t182, .slice Ao20 t183.length co20] 26 (0, 0)) (by (with_reducible repeat (first | refine qa ?_ _ | refine qb ?_ | refine qc ?_ _)); exact BK186.out) hb); have n7_ := Aside0.mk (qw (g := gb213) (o := .cells #[.int .i64 t206, .int .i64 t207, .string t208, .string t209, .slice Ao84 t210.length co84] 26 (0, 0)) (by (with_reducible repeat (first | refine qa ?_ _ | refine qb ?_ | refine qc ?_ _)); exact BK213.out) hb); have n8_ := Aside0.mk (below_step (by repeat (first | (with_reducible first | exact HB.out | apply qf | apply qn | apply qe | refine qd ?_ GE173.out | refine qd ?_ GE174.out | refine qd ?_ GE186.out | refine qd ?_ GE213.out) | exact HB.out)) hb); clear HO_7; clear HO_187004; clear HO_214004; clear BK173; clear BK174; clear BK186; clear BK213; clear HB; have HO_7 := n0_; have HO_187004 := n1_; have HO_214004 := n2_; have HO240 := n3_; have BK173 := n4_; have BK174 := n5_; have BK186 := n6_; have BK213 := n7_; have HB := n8_; clear n0_ n1_ n2_ n3_ n4_ n5_ n6_ n7_ n8_; (try clear hb); (try clear hb2); (try clear hk); (try clear hi); (try clear ho0); obtain ⟨Ao165, co165, eo165⟩ := Kd.R_slice HO240.out; subst eo165) | (go_at_call 16; (with_reducible refine (hearsaylaw02_bindings.calls kj73 _ _ t175 _ _ t238 true _ ?side1 ?side2 ?side3 ?side4 A154.out).mono ?_); (case side1 => repeat (first | exact (Kd.R_reads' HO_7.out).2.2 | (with_reducible refine Kd.C_alloc ?_ _) | (with_reducible refine Kd.C_drewN ?_ _) | (with_reducible refine Kd.C_drew ?_))); (case side2 => exact (Kd.R_reads' HO_7.out).2.1); (case side3 => repeat (first | exact (Kd.R_reads' HO240.out).2.2 | (with_reducible refine Kd.C_alloc ?_ _) | (with_reducible refine Kd.C_drewN ?_ _) | (with_reducible refine Kd.C_drew ?_))); (case side4 => exact (Kd.R_reads' HO240.out).2.1); rintro e w' ⟨rfl, ⟨nd, rfl⟩⟩) | (go_at_call 19; (with_reducible refine (hearsaylaw02_first.calls  t243 _ A156.out).mono ?_); rintro e w166 ⟨rfl, hb⟩; have n0_ := Aside0.mk (Kd.R_below (by (with_reducible repeat (first | apply qz | apply qx | apply qy)); exact HO_7.out) hb); have n1_ := Aside0.mk (Kd.R_below (by (with_reducible repeat (first | apply qz | apply qx | apply qy)); exact HO_187004.out) hb); have n2_ := Aside0.mk (Kd.R_below (by (with_reducible repeat (first | apply qz | apply qx | apply qy)); exact HO_214004.out) hb); have n3_ := Aside0.mk (Kd.R_below (by (with_reducible repeat (first | apply qz | apply qx | apply qy)); exact HO240.out) hb); have n4_ := Aside0.mk (qw (g := gb173) (o := .cells #[.int .i64 a0_0, .int .i64 a0_1, .string a0_2, .string a0_3, .slice A0_4 l0_4.length c0_4] 26 (0, 0)) (by (with_reducible repeat (first | refine qa ?_ _ | refine qb ?_ | refine qc ?_ _)); exact BK173.out) hb); have n5_ := Aside0.mk (qw (g := gb174) (o := .cells #[.int .i64 a1_0, .int .i64 a1_1, .string a1_2, .string a1_3, .slice A1_4 l1_4.length c1_4] 26 (0, 0)) (by (with_reducible repeat (first | refine qa ?_ _ | refine qb ?_ | refine qc ?_ _)); exact BK174.out) hb); have n6_ := Aside0.mk (qw (g := gb186) (o := .cells #[.int .i64 t179, .int .i64 t180, .string t181, .string t182, .slice Ao20 t183.length co20] 26 (0, 0)) (by (with_reducible repeat (first | refine qa ?_ _ | refine qb ?_ | refine qc ?_ _)); exact BK186.out) hb); have n7_ := Aside0.mk (qw (g := gb213) (o := .cells #[.int .i64 t206, .int .i64 t207, .string t208, .string t209, .slice Ao84 t210.length co84] 26 (0, 0)) (by (with_reducible repeat (first | refine qa ?_ _ | refine qb ?_ | refine qc ?_ _)); exact BK213.out) hb); have n8_ := Aside0.mk (below_step (by repeat (first | (with_reducible first | exact HB.out | apply qf | apply qn | apply qe | refine qd ?_ GE173.out | refine qd ?_ GE174.out | refine qd ?_ GE186.out | refine qd ?_ GE213.out) | exact HB.out)) hb); clear HO_7; clear HO_187004; clear HO_214004; clear HO240; clear BK173; clear BK174; clear BK186; clear BK213; clear HB; have HO_7 := n0_; have HO_187004 := n1_; have HO_214004 := n2_; have HO240 := n3_; have BK173 := n4_; have BK174 := n5_; have BK186 := n6_; have BK213 := n7_; have HB := n8_; clear n0_ n1_ n2_ n3_ n4_ n5_ n6_ n7_ n8_; (try clear hb); (try clear hb2); (try clear hk); (try clear hi)))
  go_ret
  exact ⟨by first | rfl | (simp [errW_none, errW_some] <;> rfl) | (simp [errW_none, errW_some, bne, show ∀ l_ : List UInt8, (l_ == []) = l_.isEmpty from fun l_ => by cases l_ <;> rfl]; done) | (simp [*, errW_none, errW_some] <;> rfl), by repeat (first | (with_reducible first | exact HB.out | apply qf | apply qn | apply qe | refine qd ?_ GE173.out | refine qd ?_ GE174.out | refine qd ?_ GE186.out | refine qd ?_ GE213.out) | exact HB.out)⟩
 subst c109
 have H1 : (if t178 = true then ((term_Apply.f kj73 l2 t179 t180 t181 t182 t183).bind fun bt224 => ((hearsaylaw02_same.f kj73 bt224.1 bt224.2.1 bt224.2.2.1 bt224.2.2.2.1 bt224.2.2.2.2 t206 t207 t208 t209 t210).bind fun t231 => (hearsaylaw02_TermUnifies.j3 kj73 t175 t178 (!t231) a0_0 a0_1 a0_2 a0_3 l0_4 a1_0 a1_1 a1_2 a1_3 l1_4))) else (hearsaylaw02_TermUnifies.j3 kj73 t175 t178 true a0_0 a0_1 a0_2 a0_3 l0_4 a1_0 a1_1 a1_2 a1_3 l1_4)) = some r := by rw [if_pos rfl] at H; exact H
 clear H
 have H := H1
 clear H1
 have HC110 := Aside0.mk H
 clear H
 go_upto_region 9 with (fail)
 go_cut [94] (fun v94 wc => ∃ (kq : Nat) (x94_109 : Bool), v94 = .bool x94_109 ∧ Aside0 (hearsaylaw02_TermUnifies.j3 kq t175 t178 x94_109 a0_0 a0_1 a0_2 a0_3 l0_4 a1_0 a1_1 a1_2 a1_3 l1_4 = some r) ∧ Aside0 (kq ≤ kj73) ∧ Aside0 (Kd.R k44 44 wc w.heap.size (fun _ => True) (.slice Ao14 t175.length co14) t175) ∧ Aside0 (Kd.R k23 23 wc w.heap.size (fun k_ => some k_ ≠ ((.slice Ao84 t210.length co84) : Value).ownBlock) (.slice Ao20 t183.length co20) t183) ∧ Aside0 (Kd.R k23 23 wc w.heap.size (fun k_ => some k_ ≠ ((.slice Ao20 t183.length co20) : Value).ownBlock) (.slice Ao84 t210.length co84) t210) ∧ Aside0 (wc.heap[gb173]? = some (.cells #[.int .i64 a0_0, .int .i64 a0_1, .string a0_2, .string a0_3, (.slice A0_4 l0_4.length c0_4)] 26 (0, 0))) ∧ Aside0 (wc.heap[gb174]? = some (.cells #[.int .i64 a1_0, .int .i64 a1_1, .string a1_2, .string a1_3, (.slice A1_4 l1_4.length c1_4)] 26 (0, 0))) ∧ Aside0 (wc.heap[gb186]? = some (.cells #[.int .i64 t179, .int .i64 t180, .string t181, .string t182, (.slice Ao20 t183.length co20)] 26 (0, 0))) ∧ Aside0 (wc.heap[gb213]? = some (.cells #[.int .i64 t206, .int .i64 t207, .string t208, .string t209, (.slice Ao84 t210.length co84)] 26 (0, 0))) ∧ Aside0 (Below w.heap.size w wc))
 case first =>
  have H := HC110.out
  clear HC110
  by_cases c111 : t178 = true
  rotate_left
  · replace c111 := Bool.eq_false_iff.mpr c111
    subst c111
    have H1 : (hearsaylaw02_TermUnifies.j3 kj73 t175 false true a0_0 a0_1 a0_2 a0_3 l0_4 a1_0 a1_1 a1_2 a1_3 l1_4) = some r := by rw [if_neg (show ¬ (false = true) by decide)] at H; exact H
    exact absurd H1 (by rw [HR1.out]; cases kj73 <;> simp [hearsaylaw02_TermUnifies.j3])
  subst c111
  have H1 : ((term_Apply.f kj73 l2 t179 t180 t181 t182 t183).bind fun bt224 => ((hearsaylaw02_same.f kj73 bt224.1 bt224.2.1 bt224.2.2.1 bt224.2.2.2.1 bt224.2.2.2.2 t206 t207 t208 t209 t210).bind fun t231 => (hearsaylaw02_TermUnifies.j3 kj73 t175 true (!t231) a0_0 a0_1 a0_2 a0_3 l0_4 a1_0 a1_1 a1_2 a1_3 l1_4))) = some r := by rw [if_pos rfl] at H; exact H
  clear H
  have H := H1
  clear H1
  replace H := Option.bind_eq_some_iff.mp H
  obtain ⟨⟨t224, t225, t226, t227, t228⟩, A1120, H⟩ := H
  replace H : ((hearsaylaw02_same.f kj73 t224 t225 t226 t227 t228 t206 t207 t208 t209 t210).bind fun t231 => (hearsaylaw02_TermUnifies.j3 kj73 t175 true (!t231) a0_0 a0_1 a0_2 a0_3 l0_4 a1_0 a1_1 a1_2 a1_3 l1_4)) = some r := H
  have A112 := Aside0.mk A1120
  clear A1120
  replace H := Option.bind_eq_some_iff.mp H
  obtain ⟨t231, A1130, H⟩ := H
  replace H : (hearsaylaw02_TermUnifies.j3 kj73 t175 true (!t231) a0_0 a0_1 a0_2 a0_3 l0_4 a1_0 a1_1 a1_2 a1_3 l1_4) = some r := H
  have A113 := Aside0.mk A1130
  clear A1130
  have H' := Aside0.mk H
  clear H
  try go_wp2
  have n0_ := Aside0.mk (qy HO_7.out)
  have n1_ := Aside0.mk (qy HO_187004.out)
  have n2_ := Aside0.mk (qy HO_214004.out)
  have n3_ := Aside0.mk (qb BK173.out)
  have n4_ := Aside0.mk (qb BK174.out)
  have n5_ := Aside0.mk (qb BK186.out)
  have n6_ := Aside0.mk (qb BK213.out)
  have n7_ := Aside0.mk (qe HB.out)
  clear HO_7
  clear HO_187004
  clear HO_214004
  clear BK173
  clear BK174
  clear BK186
  clear BK213
  clear HB
  have HO_7 := n0_
  have HO_187004 := n1_
  have HO_214004 := n2_
  have BK173 := n3_
  have BK174 := n4_
  have BK186 := n5_
  have BK213 := n6_
  have HB := n7_
  clear n0_ n1_ n2_ n3_ n4_ n5_ n6_ n7_
  refine start_ (n := 10) (S := fun w' => w'.cell? ⟨gb186, 0, none⟩ = some (.int .i64 t179) ∧ w'.cell? ⟨gb186, 1, none⟩ = some (.int .i64 t180) ∧ w'.cell? ⟨gb186, 2, none⟩ = some (.string t181) ∧ w'.cell? ⟨gb186, 3, none⟩ = some (.string t182) ∧ w'.cell? ⟨gb186, 4, none⟩ = some (.slice Ao20 t183.length co20) ∧ w'.cell? ⟨gb213, 0, none⟩ = some (.int .i64 t206) ∧ w'.cell? ⟨gb213, 1, none⟩ = some (.int .i64 t207) ∧ w'.cell? ⟨gb213, 2, none⟩ = some (.string t208) ∧ w'.cell? ⟨gb213, 3, none⟩ = some (.string t209) ∧ w'.cell? ⟨gb213, 4, none⟩ = some (.slice Ao84 t210.length co84)) (ds := []) #[false, false, false, false, false, false, false, false, false, false] (by kernel_rfl) rfl rfl ⟨(qh BK186.out 0).trans rfl, (qh BK186.out 1).trans rfl, (qh BK186.out 2).trans rfl, (qh BK186.out 3).trans rfl, (qh BK186.out 4).trans rfl, (qh BK213.out 0).trans rfl, (qh BK213.out 1).trans rfl, (qh BK213.out 2).trans rfl, (qh BK213.out 3).trans rfl, (qh BK213.out 4).trans rfl⟩ (fun hHeld => ?_); refine with_tabW hearsaylaw02_TermUnifies.tab9 hearsaylaw02_TermUnifies.bits9 (fun HT_ HW_ => ?_)
  generalize wc.drew = w114 at HO_7 HO_187004 HO_214004 BK173 BK174 BK186 BK213 HB hHeld ⊢
  refine pure_ (i := 0) (N := some 85) (v := ?_) (a' := ?_) #[true, false, false, false, false, false, false, false, false, false] rfl rfl (any_of HT_.out (by kernel_rfl)) (fun _ _ _ h => h) (Or.inl ⟨by rfl, ?_⟩) ?_ ?_
  rotate_left
  · intro w'
    go_simp
    with_reducible rfl
  rotate_left
  · simp only [Act.put, List.setIfInBounds_toArray, List.set_cons_zero, List.set_cons_succ, i64_w, i32_w]
    rfl
  refine pure_ (i := 1) (N := some 86) (v := ?_) (a' := ?_) #[true, true, false, false, false, false, false, false, false, false] rfl rfl (any_of HT_.out (by kernel_rfl)) (fun _ _ _ h => h) (Or.inl ⟨by rfl, ?_⟩) ?_ ?_
  rotate_left
  · intro w'
    go_simp
    with_reducible rfl
  rotate_left
  · simp only [Act.put, List.setIfInBounds_toArray, List.set_cons_zero, List.set_cons_succ, i64_w, i32_w]
    rfl
  refine pure_ (i := 2) (N := some 87) (v := ?_) (a' := ?_) #[true, true, true, false, false, false, false, false, false, false] rfl rfl (any_of HT_.out (by kernel_rfl)) (fun _ _ _ h => h) (Or.inl ⟨by rfl, ?_⟩) ?_ ?_
  rotate_left
  · intro w'
    go_simp
    with_reducible rfl
  rotate_left
  · simp only [Act.put, List.setIfInBounds_toArray, List.set_cons_zero, List.set_cons_succ, i64_w, i32_w]
    rfl
  refine pure_ (i := 3) (N := some 88) (v := ?_) (a' := ?_) #[true, true, true, true, false, false, false, false, false, false] rfl rfl (any_of HT_.out (by kernel_rfl)) (fun _ _ _ h => h) (Or.inl ⟨by rfl, ?_⟩) ?_ ?_
  rotate_left
  · intro w'
    go_simp
    with_reducible rfl
  rotate_left
  · simp only [Act.put, List.setIfInBounds_toArray, List.set_cons_zero, List.set_cons_succ, i64_w, i32_w]
    rfl
  refine take_ (i := 4) (N := some 89) (v := ?_) (a' := ?_) #[true, true, true, true, true, false, false, false, false, false] rfl rfl (take_ofW HT_.out HW_.out (by kernel_rfl)) (fun _ _ _ h => h) (Or.inl ⟨by rfl, ?_⟩) hHeld ?_ ?_
  rotate_left
  · rintro w' ⟨s0, s1, s2, s3, s4, s5, s6, s7, s8, s9⟩
    go_simp
    with_reducible rfl
  rotate_left
  · simp only [Act.put, List.setIfInBounds_toArray, List.set_cons_zero, List.set_cons_succ, i64_w, i32_w]
    rfl
  refine take_ (i := 6) (N := some 91) (v := ?_) (a' := ?_) #[true, true, true, true, true, false, true, false, false, false] rfl rfl (take_ofW HT_.out HW_.out (by kernel_rfl)) (fun _ _ _ h => h) (Or.inl ⟨by rfl, ?_⟩) hHeld ?_ ?_
  rotate_left
  · rintro w' ⟨s0, s1, s2, s3, s4, s5, s6, s7, s8, s9⟩
    go_simp
    with_reducible rfl
  rotate_left
  · simp only [Act.put, List.setIfInBounds_toArray, List.set_cons_zero, List.set_cons_succ, i64_w, i32_w]
    rfl
  refine one_ (i := 5) (N := some 90) #[true, true, true, true, true, true, true, false, false, false] rfl rfl (one_of HT_.out (by kernel_rfl)) (by decide) (fun K hK => ?_)
  refine goes_ Tryd.func23 (by kernel_rfl) rfl #[.slice A2 l2.length c2, .agg #[.int .i64 t179, .int .i64 t180, .string t181, .string t182, .slice Ao20 t183.length co20]] (by rfl) rfl rfl (by (try simp only [List.map_toArray, List.map_cons, List.map_nil]); first | done | rfl | (simp only [List.length_drop, List.length_take]; rfl)) ?_
  with_reducible refine (term_Apply.calls kj73 _ _ l2 t179 t180 t181 t182 _ _ t183 t224 t225 t226 t227 t228 _ ?side1 ?side2 ?side3 ?side4 ?side5 A112.out).mono ?_
  (case side1 => repeat (first | exact (Kd.C_below HR2.out HB.out) | (with_reducible refine Kd.C_alloc ?_ _) | (with_reducible refine Kd.C_drewN ?_ _) | (with_reducible refine Kd.C_drew ?_)))
  (case side2 => exact HC2.out)
  (case side3 => repeat (first | exact (Kd.R_reads' HO_187004.out).2.2 | (with_reducible refine Kd.C_alloc ?_ _) | (with_reducible refine Kd.C_drewN ?_ _) | (with_reducible refine Kd.C_drew ?_)))
  (case side4 => exact (Kd.R_reads' HO_187004.out).2.1)
  (case side5 => exact Laid2.up HLD2.out (by repeat (first | (with_reducible first | exact HB.out | apply qf | apply qn | apply qe | refine qd ?_ GE173.out | refine qd ?_ GE174.out | refine qd ?_ GE186.out | refine qd ?_ GE213.out) | exact HB.out)))
  rintro e w115 ⟨v229, rfl, ho0, hb⟩
  refine ⟨_, rfl, ?_⟩
  have n0_ := Aside0.mk (Kd.R_below (by (with_reducible repeat (first | apply qz | apply qx | apply qy)); exact HO_7.out) hb)
  have n1_ := Aside0.mk (Kd.R_elder' (by (with_reducible repeat (first | apply qz | apply qx | apply qy)); exact HO_187004.out) (Kd.R_base ho0) hb)
  have n2_ := Aside0.mk (Kd.R_elder' (by (with_reducible repeat (first | apply qz | apply qx | apply qy)); exact HO_214004.out) (Kd.R_base ho0) hb)
  have n3_ := Aside0.mk (Kd.R_lower (Kd.R_new' (Kd.R_new' ho0 (Kd.R_lt (by (with_reducible repeat (first | apply qz | apply qx | apply qy)); exact HO_187004.out))) (Kd.R_lt (by (with_reducible repeat (first | apply qz | apply qx | apply qy)); exact HO_214004.out))) (below_size (by repeat (first | (with_reducible first | exact HB.out | apply qf | apply qn | apply qe | refine qd ?_ GE173.out | refine qd ?_ GE174.out | refine qd ?_ GE186.out | refine qd ?_ GE213.out) | exact HB.out))))
  have n4_ := Aside0.mk (qw (g := gb173) (o := .cells #[.int .i64 a0_0, .int .i64 a0_1, .string a0_2, .string a0_3, .slice A0_4 l0_4.length c0_4] 26 (0, 0)) (by (with_reducible repeat (first | refine qa ?_ _ | refine qb ?_ | refine qc ?_ _)); exact BK173.out) hb)
  have n5_ := Aside0.mk (qw (g := gb174) (o := .cells #[.int .i64 a1_0, .int .i64 a1_1, .string a1_2, .string a1_3, .slice A1_4 l1_4.length c1_4] 26 (0, 0)) (by (with_reducible repeat (first | refine qa ?_ _ | refine qb ?_ | refine qc ?_ _)); exact BK174.out) hb)
  have n6_ := Aside0.mk (qw (g := gb186) (o := .cells #[.int .i64 t179, .int .i64 t180, .string t181, .string t182, .slice Ao20 t183.length co20] 26 (0, 0)) (by (with_reducible repeat (first | refine qa ?_ _ | refine qb ?_ | refine qc ?_ _)); exact BK186.out) hb)
  have n7_ := Aside0.mk (qw (g := gb213) (o := .cells #[.int .i64 t206, .int .i64 t207, .string t208, .string t209, .slice Ao84 t210.length co84] 26 (0, 0)) (by (with_reducible repeat (first | refine qa ?_ _ | refine qb ?_ | refine qc ?_ _)); exact BK213.out) hb)
  have n8_ := Aside0.mk (below_step (by repeat (first | (with_reducible first | exact HB.out | apply qf | apply qn | apply qe | refine qd ?_ GE173.out | refine qd ?_ GE174.out | refine qd ?_ GE186.out | refine qd ?_ GE213.out) | exact HB.out)) hb)
  clear HO_7
  clear HO_187004
  clear HO_214004
  clear BK173
  clear BK174
  clear BK186
  clear BK213
  clear HB
  have HO_7 := n0_
  have HO_187004 := n1_
  have HO_214004 := n2_
  have HO230 := n3_
  have BK173 := n4_
  have BK174 := n5_
  have BK186 := n6_
  have BK213 := n7_
  have HB := n8_
  clear n0_ n1_ n2_ n3_ n4_ n5_ n6_ n7_ n8_
  (try clear hb)
  (try clear hb2)
  (try clear hk)
  (try clear hi)
  (try clear ho0)
  obtain ⟨Ao116, co116, eo116⟩ := Kd.R_slice HO230.out
  (first | subst eo116 | (injection eo116 with f1_ f2_ f3_; have f4_ := f1_.symm; have f5_ := f3_.symm; clear f1_ f2_ f3_; subst f4_; subst f5_))
  refine hK.out _ _ ⟨(qh BK186.out 0).trans rfl, (qh BK186.out 1).trans rfl, (qh BK186.out 2).trans rfl, (qh BK186.out 3).trans rfl, (qh BK186.out 4).trans rfl, (qh BK213.out 0).trans rfl, (qh BK213.out 1).trans rfl, (qh BK213.out 2).trans rfl, (qh BK213.out 3).trans rfl, (qh BK213.out 4).trans rfl⟩ (fun hHeld => ?_)
  clear hK K
  refine norm_ (a' := ?_) ?_ ?_
  rotate_left
  · show Act.put _ (some 90) _ = _
    simp only [Act.put, List.setIfInBounds_toArray, List.set_cons_zero, List.set_cons_succ, i64_w, i32_w]
    rfl
  refine one_ (i := 7) (N := some 92) #[true, true, true, true, true, true, true, true, false, false] rfl rfl (one_of HT_.out (by kernel_rfl)) (by decide) (fun K hK => ?_)
  refine goes_ Tryd.func22 (by kernel_rfl) rfl #[.agg #[.int .i64 t224, .int .i64 t225, .string t226, .string t227, .slice Ao116 t228.length co116], .agg #[.int .i64 t206, .int .i64 t207, .string t208, .string t209, .slice Ao84 t210.length co84]] (by rfl) rfl rfl (by (try simp only [List.map_toArray, List.map_cons, List.map_nil]); first | done | rfl | (simp only [List.length_drop, List.length_take]; rfl)) ?_
  with_reducible refine (hearsaylaw02_same.calls kj73 t224 t225 t226 t227 _ _ t228 t206 t207 t208 t209 _ _ t210 t231 _ ?side1 ?side2 ?side3 ?side4 A113.out).mono ?_
  (case side1 => repeat (first | exact (Kd.R_reads' HO230.out).2.2 | (with_reducible refine Kd.C_alloc ?_ _) | (with_reducible refine Kd.C_drewN ?_ _) | (with_reducible refine Kd.C_drew ?_)))
  (case side2 => exact (Kd.R_reads' HO230.out).2.1)
  (case side3 => repeat (first | exact (Kd.R_reads' HO_214004.out).2.2 | (with_reducible refine Kd.C_alloc ?_ _) | (with_reducible refine Kd.C_drewN ?_ _) | (with_reducible refine Kd.C_drew ?_)))
  (case side4 => exact (Kd.R_reads' HO_214004.out).2.1)
  rintro e w117 ⟨rfl, hb⟩
  refine ⟨_, rfl, ?_⟩
  have n0_ := Aside0.mk (Kd.R_below (by (with_reducible repeat (first | apply qz | apply qx | apply qy)); exact HO_7.out) hb)
  have n1_ := Aside0.mk (Kd.R_below (by (with_reducible repeat (first | apply qz | apply qx | apply qy)); exact HO_187004.out) hb)
  have n2_ := Aside0.mk (Kd.R_below (by (with_reducible repeat (first | apply qz | apply qx | apply qy)); exact HO_214004.out) hb)
  have n3_ := Aside0.mk (Kd.R_below (by (with_reducible repeat (first | apply qz | apply qx | apply qy)); exact HO230.out) hb)
  have n4_ := Aside0.mk (qw (g := gb173) (o := .cells #[.int .i64 a0_0, .int .i64 a0_1, .string a0_2, .string a0_3, .slice A0_4 l0_4.length c0_4] 26 (0, 0)) (by (with_reducible repeat (first | refine qa ?_ _ | refine qb ?_ | refine qc ?_ _)); exact BK173.out) hb)
  have n5_ := Aside0.mk (qw (g := gb174) (o := .cells #[.int .i64 a1_0, .int .i64 a1_1, .string a1_2, .string a1_3, .slice A1_4 l1_4.length c1_4] 26 (0, 0)) (by (with_reducible repeat (first | refine qa ?_ _ | refine qb ?_ | refine qc ?_ _)); exact BK174.out) hb)
  have n6_ := Aside0.mk (qw (g := gb186) (o := .cells #[.int .i64 t179, .int .i64 t180, .string t181, .string t182, .slice Ao20 t183.length co20] 26 (0, 0)) (by (with_reducible repeat (first | refine qa ?_ _ | refine qb ?_ | refine qc ?_ _)); exact BK186.out) hb)
  have n7_ := Aside0.mk (qw (g := gb213) (o := .cells #[.int .i64 t206, .int .i64 t207, .string t208, .string t209, .slice Ao84 t210.length co84] 26 (0, 0)) (by (with_reducible repeat (first | refine qa ?_ _ | refine qb ?_ | refine qc ?_ _)); exact BK213.out) hb)
  have n8_ := Aside0.mk (below_step (by repeat (first | (with_reducible first | exact HB.out | apply qf | apply qn | apply qe | refine qd ?_ GE173.out | refine qd ?_ GE174.out | refine qd ?_ GE186.out | refine qd ?_ GE213.out) | exact HB.out)) hb)
  clear HO_7
  clear HO_187004
  clear HO_214004
  clear HO230
  clear BK173
  clear BK174
  clear BK186
  clear BK213
  clear HB
  have HO_7 := n0_
  have HO_187004 := n1_
  have HO_214004 := n2_
  have HO230 := n3_
  have BK173 := n4_
  have BK174 := n5_
  have BK186 := n6_
  have BK213 := n7_
  have HB := n8_
  clear n0_ n1_ n2_ n3_ n4_ n5_ n6_ n7_ n8_
  (try clear hb)
  (try clear hb2)
  (try clear hk)
  (try clear hi)
  refine hK.out _ _ ⟨(qh BK186.out 0).trans rfl, (qh BK186.out 1).trans rfl, (qh BK186.out 2).trans rfl, (qh BK186.out 3).trans rfl, (qh BK186.out 4).trans rfl, (qh BK213.out 0).trans rfl, (qh BK213.out 1).trans rfl, (qh BK213.out 2).trans rfl, (qh BK213.out 3).trans rfl, (qh BK213.out 4).trans rfl⟩ (fun hHeld => ?_)
  clear hK K
  refine norm_ (a' := ?_) ?_ ?_
  rotate_left
  · show Act.put _ (some 92) _ = _
    simp only [Act.put, List.setIfInBounds_toArray, List.set_cons_zero, List.set_cons_succ, i64_w, i32_w]
    rfl
  refine pure_ (i := 8) (N := some 93) (v := ?_) (a' := ?_) #[true, true, true, true, true, true, true, true, true, false] rfl rfl (any_of HT_.out (by kernel_rfl)) (fun _ _ _ h => h) (Or.inl ⟨by rfl, ?_⟩) ?_ ?_
  rotate_left
  · intro w'
    go_simp
    with_reducible rfl
  rotate_left
  · simp only [Act.put, List.setIfInBounds_toArray, List.set_cons_zero, List.set_cons_succ, i64_w, i32_w]
    rfl
  refine pure_ (i := 9) (N := some 94) (v := ?_) (a' := ?_) #[true, true, true, true, true, true, true, true, true, true] rfl rfl (any_of HT_.out (by kernel_rfl)) (fun _ _ _ h => h) (Or.inl ⟨by rfl, ?_⟩) ?_ ?_
  rotate_left
  · intro w'
    go_simp
    with_reducible rfl
  rotate_left
  · simp only [Act.put, List.setIfInBounds_toArray, List.set_cons_zero, List.set_cons_succ, i64_w, i32_w]
    rfl
  refine done_ (done_of HT_.out (by kernel_rfl)) ?_
  try go_wp2
  go_meet
  exact ⟨_, (!t231), (by first | rfl | (simp; done) | (simp [*]; done)), H', ⟨by have := HJ5.out; have := HJ69.out; have := HJ73.out; first | omega | exact Nat.le_refl _⟩, ⟨by (with_reducible repeat (first | apply qz | apply qx | apply qy)); exact HO_7.out⟩, ⟨by (with_reducible repeat (first | apply qz | apply qx | apply qy)); exact Kd.R_mono HO_187004.out (fun _ hk => hk.1)⟩, ⟨by (with_reducible repeat (first | apply qz | apply qx | apply qy)); exact Kd.R_mono HO_214004.out (fun _ hk => hk.1)⟩, ⟨by (with_reducible repeat (first | refine qa ?_ _ | refine qb ?_ | refine qc ?_ _)); exact BK173.out⟩, ⟨by (with_reducible repeat (first | refine qa ?_ _ | refine qb ?_ | refine qc ?_ _)); exact BK174.out⟩, ⟨by (with_reducible repeat (first | refine qa ?_ _ | refine qb ?_ | refine qc ?_ _)); exact BK186.out⟩, ⟨by (with_reducible repeat (first | refine qa ?_ _ | refine qb ?_ | refine qc ?_ _)); exact BK213.out⟩, ⟨by repeat (first | (with_reducible first | exact HB.out | apply qf | apply qn | apply qe | refine qd ?_ GE173.out | refine qd ?_ GE174.out | refine qd ?_ GE186.out | refine qd ?_ GE213.out) | exact HB.out)⟩⟩
 clear HC110
 obtain ⟨kq, x94_109, rfl, HA, HJ109, HO_7, HO_187004, HO_214004, BK173, BK174, BK186, BK213, HB⟩ := hcut
 rcases kq with _ | kj109
 · exact absurd HA.out (by simp [hearsaylaw02_TermUnifies.j3])
 have H := HA.out
 clear HA
 simp only [hearsaylaw02_TermUnifies.j3] at H
 by_cases c119 : x94_109 = true
 ·
  subst c119
  have H1 : (some false) = some r := by rw [if_pos rfl] at H; exact H
  clear H
  have H := H1
  clear H1
  obtain rfl := Option.some.inj H
  go_wp2
  go_ret
  exact ⟨by first | rfl | (simp [errW_none, errW_some] <;> rfl) | (simp [errW_none, errW_some, bne, show ∀ l_ : List UInt8, (l_ == []) = l_.isEmpty from fun l_ => by cases l_ <;> rfl]; done) | (simp [*, errW_none, errW_some] <;> rfl), by repeat (first | (with_reducible first | exact HB.out | apply qf | apply qn | apply qe | refine qd ?_ GE173.out | refine qd ?_ GE174.out | refine qd ?_ GE186.out | refine qd ?_ GE213.out) | exact HB.out)⟩
 replace c119 := Bool.eq_false_iff.mpr c119
 subst c119
 have H1 : ((term_Unify.f a1_0 a1_1 a1_2 a1_3 l1_4 a0_0 a0_1 a0_2 a0_3 l0_4).bind fun bt232 => (if (bt232.2 == t178) = true then ((hearsaylaw02_bindings.f kj109 t175 bt232.1).bind fun t236 => (if t236 = true then ((hearsaylaw02_first.f).bind fun t237 => (some t237)) else (some false))) else (some false))) = some r := by rw [if_neg (show ¬ (false = true) by decide)] at H; exact H
 clear H
 have H := H1
 clear H1
 replace H := Option.bind_eq_some_iff.mp H
 obtain ⟨⟨t232, t235⟩, A1200, H⟩ := H
 replace H : (if (t235 == t178) = true then ((hearsaylaw02_bindings.f kj109 t175 t232).bind fun t236 => (if t236 = true then ((hearsaylaw02_first.f).bind fun t237 => (some t237)) else (some false))) else (some false)) = some r := H
 have A120 := Aside0.mk A1200
 clear A1200
 by_cases c121 : (t235 == t178) = true
 rotate_left
 · rw [if_neg c121] at H
   exact absurd H (by rw [HR1.out]; simp)
 rw [if_pos c121] at H
 have c121b0 : (t235 == t178) = true := c121
 (try (have c121b1 : decide (t235 = t178) = true := by simpa using c121))
 (try (have c121b2 : (t235 == t178) = true := by simpa using c121))
 clear c121
 replace H := Option.bind_eq_some_iff.mp H
 obtain ⟨t236, A1220, H⟩ := H
 replace H : (if t236 = true then ((hearsaylaw02_first.f).bind fun t237 => (some t237)) else (some false)) = some r := H
 have A122 := Aside0.mk A1220
 clear A1220
 by_cases c123 : t236 = true
 rotate_left
 · replace c123 := Bool.eq_false_iff.mpr c123
   subst c123
   have H1 : (some false) = some r := by rw [if_neg (show ¬ (false = true) by decide)] at H; exact H
   exact absurd H1 (by rw [HR1.out]; simp)
 subst c123
 have H1 : ((hearsaylaw02_first.f).bind fun t237 => (some t237)) = some r := by rw [if_pos rfl] at H; exact H
 clear H
 have H := H1
 clear H1
 replace H := Option.bind_eq_some_iff.mp H
 obtain ⟨t237, A1240, H⟩ := H
 replace H : (some t237) = some r := H
 have A124 := Aside0.mk A1240
 clear A1240
 obtain rfl := Option.some.inj H
 have hnb125 := NB174_173.out
 have hnc125 := NB173_174.out
 have hnb126 := NB174_186.out
 have hnc126 := NB186_174.out
 have hnb127 := NB174_213.out
 have hnc127 := NB213_174.out
 have hcz128_0 : wc.cell? ⟨gb174, 0, none⟩ = some (.int .i64 a1_0) := (qh BK174.out 0).trans rfl
 have hcz128_1 : wc.cell? ⟨gb174, 1, none⟩ = some (.int .i64 a1_1) := (qh BK174.out 1).trans rfl
 have hcz128_2 : wc.cell? ⟨gb174, 2, none⟩ = some (.string a1_2) := (qh BK174.out 2).trans rfl
 have hcz128_3 : wc.cell? ⟨gb174, 3, none⟩ = some (.string a1_3) := (qh BK174.out 3).trans rfl
 have hcz128_4 : wc.cell? ⟨gb174, 4, none⟩ = some (.slice A1_4 l1_4.length c1_4) := (qh BK174.out 4).trans rfl
 have hfz128_0 := qg BK174.out 0
 have hfz128_1 := qg BK174.out 1
 have hfz128_2 := qg BK174.out 2
 have hfz128_3 := qg BK174.out 3
 have hfz128_4 := qg BK174.out 4
 have hnb129 := NB173_186.out
 have hnc129 := NB186_173.out
 have hnb130 := NB173_213.out
 have hnc130 := NB213_173.out
 have hcz131_0 : wc.cell? ⟨gb173, 0, none⟩ = some (.int .i64 a0_0) := (qh BK173.out 0).trans rfl
 have hcz131_1 : wc.cell? ⟨gb173, 1, none⟩ = some (.int .i64 a0_1) := (qh BK173.out 1).trans rfl
 have hcz131_2 : wc.cell? ⟨gb173, 2, none⟩ = some (.string a0_2) := (qh BK173.out 2).trans rfl
 have hcz131_3 : wc.cell? ⟨gb173, 3, none⟩ = some (.string a0_3) := (qh BK173.out 3).trans rfl
 have hcz131_4 : wc.cell? ⟨gb173, 4, none⟩ = some (.slice A0_4 l0_4.length c0_4) := (qh BK173.out 4).trans rfl
 have hfz131_0 := qg BK173.out 0
 have hfz131_1 := qg BK173.out 1
 have hfz131_2 := qg BK173.out 2
 have hfz131_3 := qg BK173.out 3
 have hfz131_4 := qg BK173.out 4
 go_wp2_with (first | ((with_reducible refine gate_callee (f := 29) rfl ?_); refine goesL_ (some 98) rfl rfl Tryd.func29 (by kernel_rfl) rfl #[.agg #[.int .i64 a1_0, .int .i64 a1_1, .string a1_2, .string a1_3, .slice A1_4 l1_4.length c1_4], .agg #[.int .i64 a0_0, .int .i64 a0_1, .string a0_2, .string a0_3, .slice A0_4 l0_4.length c0_4]] rfl (by (try simp only [List.map_toArray, List.map_cons, List.map_nil]); first | done | rfl | (simp only [List.length_drop, List.length_take]; rfl)) ?_; (with_reducible refine (term_Unify.calls a1_0 a1_1 a1_2 a1_3 _ _ l1_4 a0_0 a0_1 a0_2 a0_3 _ _ l0_4 t232 t235 _ ?side1 ?side2 ?side3 ?side4 A120.out).mono ?_); (case side1 => repeat (first | exact (Kd.C_below HR1_4.out HB.out) | (with_reducible refine Kd.C_alloc ?_ _) | (with_reducible refine Kd.C_drewN ?_ _) | (with_reducible refine Kd.C_drew ?_))); (case side2 => exact HC1_4.out); (case side3 => repeat (first | exact (Kd.C_below HR0_4.out HB.out) | (with_reducible refine Kd.C_alloc ?_ _) | (with_reducible refine Kd.C_drewN ?_ _) | (with_reducible refine Kd.C_drew ?_))); (case side4 => exact HC0_4.out); rintro e w132 ⟨v233, rfl, ho0, hb⟩; refine ⟨_, rfl, ?_⟩; have n0_ := Aside0.mk (Kd.R_elder' (by (with_reducible repeat (first | apply qz | apply qx | apply qy)); exact HO_7.out) (Kd.R_base ho0) hb); have n1_ := Aside0.mk (Kd.R_below (by (with_reducible repeat (first | apply qz | apply qx | apply qy)); exact HO_187004.out) hb); have n2_ := Aside0.mk (Kd.R_below (by (with_reducible repeat (first | apply qz | apply qx | apply qy)); exact HO_214004.out) hb); have n3_ := Aside0.mk (Kd.R_lower (Kd.R_new' ho0 (Kd.R_lt (by (with_reducible repeat (first | apply qz | apply qx | apply qy)); exact HO_7.out))) (below_size (by repeat (first | (with_reducible first | exact HB.out | apply qf | apply qn | apply qe | refine qd ?_ GE173.out | refine qd ?_ GE174.out | refine qd ?_ GE186.out | refine qd ?_ GE213.out) | exact HB.out)))); have n4_ := Aside0.mk (qw (g := gb173) (o := .cells #[.int .i64 a0_0, .int .i64 a0_1, .string a0_2, .string a0_3, .slice A0_4 l0_4.length c0_4] 26 (0, 0)) (by (with_reducible repeat (first | refine qa ?_ _ | refine qb ?_ | refine qc ?_ _)); exact BK173.out) hb); have n5_ := Aside0.mk (qw (g := gb174) (o := .cells #[.int .i64 a1_0, .int .i64 a1_1, .string a1_2, .string a1_3, .slice A1_4 l1_4.length c1_4] 26 (0, 0)) (by (with_reducible repeat (first | refine qa ?_ _ | refine qb ?_ | refine qc ?_ _)); exact BK174.out) hb); have n6_ := Aside0.mk (qw (g := gb186) (o := .cells #[.int .i64 t179, .int .i64 t180, .string t181, .string t182, .slice Ao20 t183.length co20] 26 (0, 0)) (by (with_reducible repeat (first | refine qa ?_ _ | refine qb ?_ | refine qc ?_ _)); exact BK186.out) hb); have n7_ := Aside0.mk (qw (g := gb213) (o := .cells #[.int .i64 t206, .int .i64 t207, .string t208, .string t209, .slice Ao84 t210.length co84] 26 (0, 0)) (by (with_reducible repeat (first | refine qa ?_ _ | refine qb ?_ | refine qc ?_ _)); exact BK213.out) hb); have n8_ := Aside0.mk (below_step (by repeat (first | (with_reducible first | exact HB.out | apply qf | apply qn | apply qe | refine qd ?_ GE173.out | refine qd ?_ GE174.out | refine qd ?_ GE186.out | refine qd ?_ GE213.out) | exact HB.out)) hb); clear HO_7; clear HO_187004; clear HO_214004; clear BK173; clear BK174; clear BK186; clear BK213; clear HB; have HO_7 := n0_; have HO_187004 := n1_; have HO_214004 := n2_; have HO234 := n3_; have BK173 := n4_; have BK174 := n5_; have BK186 := n6_; have BK213 := n7_; have HB := n8_; clear n0_ n1_ n2_ n3_ n4_ n5_ n6_ n7_ n8_; (try clear hb); (try clear hb2); (try clear hk); (try clear hi); (try clear ho0); obtain ⟨Ao133, co133, eo133⟩ := Kd.R_slice HO234.out; subst eo133) | (go_at_call 16; (with_reducible refine (hearsaylaw02_bindings.calls kj109 _ _ t175 _ _ t232 true _ ?side1 ?side2 ?side3 ?side4 A122.out).mono ?_); (case side1 => repeat (first | exact (Kd.R_reads' HO_7.out).2.2 | (with_reducible refine Kd.C_alloc ?_ _) | (with_reducible refine Kd.C_drewN ?_ _) | (with_reducible refine Kd.C_drew ?_))); (case side2 => exact (Kd.R_reads' HO_7.out).2.1); (case side3 => repeat (first | exact (Kd.R_reads' HO234.out).2.2 | (with_reducible refine Kd.C_alloc ?_ _) | (with_reducible refine Kd.C_drewN ?_ _) | (with_reducible refine Kd.C_drew ?_))); (case side4 => exact (Kd.R_reads' HO234.out).2.1); rintro e w' ⟨rfl, ⟨nd, rfl⟩⟩) | (go_at_call 19; (with_reducible refine (hearsaylaw02_first.calls  t237 _ A124.out).mono ?_); rintro e w134 ⟨rfl, hb⟩; have n0_ := Aside0.mk (Kd.R_below (by (with_reducible repeat (first | apply qz | apply qx | apply qy)); exact HO_7.out) hb); have n1_ := Aside0.mk (Kd.R_below (by (with_reducible repeat (first | apply qz | apply qx | apply qy)); exact HO_187004.out) hb); have n2_ := Aside0.mk (Kd.R_below (by (with_reducible repeat (first | apply qz | apply qx | apply qy)); exact HO_214004.out) hb); have n3_ := Aside0.mk (Kd.R_below (by (with_reducible repeat (first | apply qz | apply qx | apply qy)); exact HO234.out) hb); have n4_ := Aside0.mk (qw (g := gb173) (o := .cells #[.int .i64 a0_0, .int .i64 a0_1, .string a0_2, .string a0_3, .slice A0_4 l0_4.length c0_4] 26 (0, 0)) (by (with_reducible repeat (first | refine qa ?_ _ | refine qb ?_ | refine qc ?_ _)); exact BK173.out) hb); have n5_ := Aside0.mk (qw (g := gb174) (o := .cells #[.int .i64 a1_0, .int .i64 a1_1, .string a1_2, .string a1_3, .slice A1_4 l1_4.length c1_4] 26 (0, 0)) (by (with_reducible repeat (first | refine qa ?_ _ | refine qb ?_ | refine qc ?_ _)); exact BK174.out) hb); have n6_ := Aside0.mk (qw (g := gb186) (o := .cells #[.int .i64 t179, .int .i64 t180, .string t181, .string t182, .slice Ao20 t183.length co20] 26 (0, 0)) (by (with_reducible repeat (first | refine qa ?_ _ | refine qb ?_ | refine qc ?_ _)); exact BK186.out) hb); have n7_ := Aside0.mk (qw (g := gb213) (o := .cells #[.int .i64 t206, .int .i64 t207, .string t208, .string t209, .slice Ao84 t210.length co84] 26 (0, 0)) (by (with_reducible repeat (first | refine qa ?_ _ | refine qb ?_ | refine qc ?_ _)); exact BK213.out) hb); have n8_ := Aside0.mk (below_step (by repeat (first | (with_reducible first | exact HB.out | apply qf | apply qn | apply qe | refine qd ?_ GE173.out | refine qd ?_ GE174.out | refine qd ?_ GE186.out | refine qd ?_ GE213.out) | exact HB.out)) hb); clear HO_7; clear HO_187004; clear HO_214004; clear HO234; clear BK173; clear BK174; clear BK186; clear BK213; clear HB; have HO_7 := n0_; have HO_187004 := n1_; have HO_214004 := n2_; have HO234 := n3_; have BK173 := n4_; have BK174 := n5_; have BK186 := n6_; have BK213 := n7_; have HB := n8_; clear n0_ n1_ n2_ n3_ n4_ n5_ n6_ n7_ n8_; (try clear hb); (try clear hb2); (try clear hk); (try clear hi)))
 go_ret
 exact ⟨by first | rfl | (simp [errW_none, errW_some] <;> rfl) | (simp [errW_none, errW_some, bne, show ∀ l_ : List UInt8, (l_ == []) = l_.isEmpty from fun l_ => by cases l_ <;> rfl]; done) | (simp [*, errW_none, errW_some] <;> rfl), by repeat (first | (with_reducible first | exact HB.out | apply qf | apply qn | apply qe | refine qd ?_ GE173.out | refine qd ?_ GE174.out | refine qd ?_ GE186.out | refine qd ?_ GE213.out) | exact HB.out)⟩
end Go.Proofs.YtnomgmlfagiffaaDoor.T
