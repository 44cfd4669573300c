/- T17: texts of this claim, laid together. -/
import Derived.Test.YtnomgmlfagiffaaDoorM4Ud
/- By a program of this session (wip/tools/squeeze.py), out of the translation: hearsayref02_Unify, its contract. -/
namespace Go.Proofs.YtnomgmlfagiffaaDoor.T
open Go.RowKit Go.Proofs.YtnomgmlfagiffaaDoorW.PrintWords Go.Proofs.YtnomgmlfagiffaaDoorW.PrintLast Go.Proofs.YtnomgmlfagiffaaDoorW.PrintMore
attribute [local go_sem] max2_int min2_int max_two min_two max_three min_three max_four min_four   -- for this text's walks alone
set_option linter.unusedVariables false
set_option linter.unusedSimpArgs false

attribute [local go_sem high] eqA23
set_option maxHeartbeats 8000000 in
set_option maxRecDepth 100000 in
theorem hearsayref02_Unify.calls (k : Nat) (a0_0 : Int) (a0_1 : Int) (a0_2 : ByteArray) (a0_3 : ByteArray) (A0_4 : Option Addr) (c0_4 : Nat) (l0_4 : List (S23)) (a1_0 : Int) (a1_1 : Int) (a1_2 : ByteArray) (a1_3 : ByteArray) (A1_4 : Option Addr) (c1_4 : Nat) (l1_4 : List (S23)) (r1 : List (S44)) (r2 : Bool) (w : World) (hr0_4 : Kd.C k23 w A0_4 l0_4.length l0_4) (hc0_4 : l0_4.length ≤ c0_4) (hr1_4 : Kd.C k23 w A1_4 l1_4.length l1_4) (hc1_4 : l1_4.length ≤ c1_4) (h : hearsayref02_Unify.f k a0_0 a0_1 a0_2 a0_3 l0_4 a1_0 a1_1 a1_2 a1_3 l1_4 = some (r1, r2)) :
 Calls Tryd.prog 30 #[.agg #[.int .i64 a0_0, .int .i64 a0_1, .string a0_2, .string a0_3, .slice A0_4 l0_4.length c0_4], .agg #[.int .i64 a1_0, .int .i64 a1_1, .string a1_2, .string a1_3, .slice A1_4 l1_4.length c1_4]] w fun e w' => ∃ v0_ : Value, e = .returned (.tuple #[v0_, .bool r2]) ∧ Kd.R k44 44 w' w.heap.size (fun _ => True) v0_ r1 ∧ Below w.heap.size w w' := by
 have hu26 := Tryd.underlying26
 have hu23 := Tryd.underlying23
 have hu44 := Tryd.underlying44
 have HR0_4 := Aside0.mk hr0_4
 have HC0_4 := Aside0.mk hc0_4
 clear hr0_4 hc0_4
 have HR1_4 := Aside0.mk hr1_4
 have HC1_4 := Aside0.mk hc1_4
 clear hr1_4 hc1_4
 have HB := Aside0.mk (Below.refl w.heap.size w)
 have H : (if a0_3.toList = a1_3.toList then (hearsayref02_Unify.j0 k ((l0_4.length : Int) != (l1_4.length : Int)) a0_0 a0_1 a0_2 a0_3 l0_4 a1_0 a1_1 a1_2 a1_3 l1_4) else (hearsayref02_Unify.j0 k true a0_0 a0_1 a0_2 a0_3 l0_4 a1_0 a1_1 a1_2 a1_3 l1_4)) = some (r1, r2) := h
 clear h
 have HC3 := Aside0.mk H
 clear H
 go_enter Tryd.func30, Tryd.ntmps30
 go_upto_region 1 with (first | ((with_reducible refine gate_dst (N := 2) rfl ?_); (try (refine gate_guard (by rfl) ?_; dsimp only)); refine box_event ?hg (N := 2) ?hd (cs := #[.int .i64 a0_0, .int .i64 a0_1, .string a0_2, .string a0_3, .slice A0_4 l0_4.length c0_4]) (t := 26) ?hr ?_; (case hd => rfl); (case hg => rfl); (case hr => first | (go_simp; done) | (go_simp; rfl)); intro gb549 hg w4 hbox hb; have n0_ := Aside0.mk (below_step (by repeat (first | (with_reducible first | exact HB.out | apply qf | apply qn | apply qe) | exact HB.out)) hb); have n1_ := Aside0.mk (hbox); have n2_ := Aside0.mk ((by rw [hg]; exact (below_size (by repeat (first | (with_reducible first | exact HB.out | apply qf | apply qn | apply qe) | exact HB.out))) : w.heap.size ≤ gb549)); have n3_ := Aside0.mk ((by rw [hg]; exact (below_size (by repeat (first | (with_reducible first | exact HB.out | apply qf | apply qn | apply qe) | exact HB.out))) : w.heap.size ≤ gb549)); clear HB; have HB := n0_; have BK549 := n1_; have GW549 := n2_; have GE549 := n3_; clear n0_ n1_ n2_ n3_; clear hb hbox hg) | ((with_reducible refine gate_dst (N := 3) rfl ?_); (try (refine gate_guard (by rfl) ?_; dsimp only)); refine box_event ?hg (N := 3) ?hd (cs := #[.int .i64 a1_0, .int .i64 a1_1, .string a1_2, .string a1_3, .slice A1_4 l1_4.length c1_4]) (t := 26) ?hr ?_; (case hd => rfl); (case hg => rfl); (case hr => first | (go_simp; done) | (go_simp; rfl)); intro gb550 hg w5 hbox hb; have n0_ := Aside0.mk (qw (g := gb549) (o := .cells #[.int .i64 a0_0, .int .i64 a0_1, .string a0_2, .string a0_3, .slice A0_4 l0_4.length c0_4] 26 (0, 0)) (by (with_reducible repeat (first | refine qa ?_ _ | refine qb ?_ | refine qc ?_ _)); exact BK549.out) hb); have n1_ := Aside0.mk (below_step (by repeat (first | (with_reducible first | exact HB.out | apply qf | apply qn | apply qe | refine qd ?_ GE549.out) | exact HB.out)) hb); have n2_ := Aside0.mk (hbox); have n3_ := Aside0.mk ((by rw [hg]; exact (below_size (by repeat (first | (with_reducible first | exact HB.out | apply qf | apply qn | apply qe | refine qd ?_ GE549.out) | exact HB.out))) : w.heap.size ≤ gb550)); have n4_ := Aside0.mk ((by rw [hg]; exact (below_size (by repeat (first | (with_reducible first | exact HB.out | apply qf | apply qn | apply qe | refine qd ?_ GE549.out) | exact HB.out))) : w.heap.size ≤ gb550)); have n5_ := Aside0.mk ((by rw [hg]; exact Nat.ne_of_lt (blk_lt (g := gb549) (o := .cells #[.int .i64 a0_0, .int .i64 a0_1, .string a0_2, .string a0_3, .slice A0_4 l0_4.length c0_4] 26 (0, 0)) (by (with_reducible repeat (first | refine qa ?_ _ | refine qb ?_ | refine qc ?_ _)); exact BK549.out)) : gb549 ≠ gb550)); have n6_ := Aside0.mk ((by rw [hg]; exact Nat.ne_of_gt (blk_lt (g := gb549) (o := .cells #[.int .i64 a0_0, .int .i64 a0_1, .string a0_2, .string a0_3, .slice A0_4 l0_4.length c0_4] 26 (0, 0)) (by (with_reducible repeat (first | refine qa ?_ _ | refine qb ?_ | refine qc ?_ _)); exact BK549.out)) : gb550 ≠ gb549)); clear BK549; clear HB; have BK549 := n0_; have HB := n1_; have BK550 := n2_; have GW550 := n3_; have GE550 := n4_; have NB549_550 := n5_; have NB550_549 := n6_; clear n0_ n1_ n2_ n3_ n4_ n5_ n6_; clear hb hbox hg))
 (try simp only [Act.put, List.setIfInBounds_toArray, List.set_cons_zero, List.set_cons_succ])
 go_cut [27] (fun v27 wc => ∃ (kq : Nat) (x27_2 : Bool), v27 = .bool x27_2 ∧ Aside0 (hearsayref02_Unify.j0 kq x27_2 a0_0 a0_1 a0_2 a0_3 l0_4 a1_0 a1_1 a1_2 a1_3 l1_4 = some (r1, r2)) ∧ Aside0 (kq ≤ k) ∧ Aside0 (wc.heap[gb549]? = some (.cells #[.int .i64 a0_0, .int .i64 a0_1, .string a0_2, .string a0_3, (.slice A0_4 l0_4.length c0_4)] 26 (0, 0))) ∧ Aside0 (wc.heap[gb550]? = some (.cells #[.int .i64 a1_0, .int .i64 a1_1, .string a1_2, .string a1_3, (.slice A1_4 l1_4.length c1_4)] 26 (0, 0))) ∧ Aside0 (Below w.heap.size w wc))
 case first =>
  have H := HC3.out
  clear HC3
  by_cases c6 : a0_3.toList = a1_3.toList
  rotate_left
  ·
   rw [if_neg c6] at H
   have c6b0 : (a0_3.toList == a1_3.toList) = false := beq_eq_false_iff_ne.mpr c6
   have c6b1 : (a0_3.toList != a1_3.toList) = true := bne_iff_ne.mpr c6
   (first | rw [c6b0] | (simp only [i64_w, i32_w]; rw [c6b0]) | skip)
   have H' := Aside0.mk H
   clear H
   have hnb10 := NB549_550.out
   have hnc10 := NB550_549.out
   have hcz11_0 : w5.cell? ⟨gb549, 0, none⟩ = some (.int .i64 a0_0) := (qh BK549.out 0).trans rfl
   have hcz11_1 : w5.cell? ⟨gb549, 1, none⟩ = some (.int .i64 a0_1) := (qh BK549.out 1).trans rfl
   have hcz11_2 : w5.cell? ⟨gb549, 2, none⟩ = some (.string a0_2) := (qh BK549.out 2).trans rfl
   have hcz11_3 : w5.cell? ⟨gb549, 3, none⟩ = some (.string a0_3) := (qh BK549.out 3).trans rfl
   have hcz11_4 : w5.cell? ⟨gb549, 4, none⟩ = some (.slice A0_4 l0_4.length c0_4) := (qh BK549.out 4).trans rfl
   have hfz11_0 := qg BK549.out 0
   have hfz11_1 := qg BK549.out 1
   have hfz11_2 := qg BK549.out 2
   have hfz11_3 := qg BK549.out 3
   have hfz11_4 := qg BK549.out 4
   have hcz12_0 : w5.cell? ⟨gb550, 0, none⟩ = some (.int .i64 a1_0) := (qh BK550.out 0).trans rfl
   have hcz12_1 : w5.cell? ⟨gb550, 1, none⟩ = some (.int .i64 a1_1) := (qh BK550.out 1).trans rfl
   have hcz12_2 : w5.cell? ⟨gb550, 2, none⟩ = some (.string a1_2) := (qh BK550.out 2).trans rfl
   have hcz12_3 : w5.cell? ⟨gb550, 3, none⟩ = some (.string a1_3) := (qh BK550.out 3).trans rfl
   have hcz12_4 : w5.cell? ⟨gb550, 4, none⟩ = some (.slice A1_4 l1_4.length c1_4) := (qh BK550.out 4).trans rfl
   have hfz12_0 := qg BK550.out 0
   have hfz12_1 := qg BK550.out 1
   have hfz12_2 := qg BK550.out 2
   have hfz12_3 := qg BK550.out 3
   have hfz12_4 := qg BK550.out 4
   go_wp2
   go_meet
   exact ⟨_, (true), (by first | rfl | (simp; done) | (simp [*]; done)), H', ⟨by first | omega | exact Nat.le_refl _⟩, ⟨by (with_reducible repeat (first | refine qa ?_ _ | refine qb ?_ | refine qc ?_ _)); exact BK549.out⟩, ⟨by (with_reducible repeat (first | refine qa ?_ _ | refine qb ?_ | refine qc ?_ _)); exact BK550.out⟩, ⟨by repeat (first | (with_reducible first | exact HB.out | apply qf | apply qn | apply qe | refine qd ?_ GE549.out | refine qd ?_ GE550.out) | exact HB.out)⟩⟩
  rw [if_pos c6] at H
  have c6b0 : (a0_3.toList == a1_3.toList) = true := beq_iff_eq.mpr c6
  have c6b1 : (a0_3.toList != a1_3.toList) = false := bne_eq_false_iff_eq.mpr c6
  clear c6
  (first | rw [c6b0] | (simp only [i64_w, i32_w]; rw [c6b0]) | skip)
  have H' := Aside0.mk H
  clear H
  have hnb7 := NB549_550.out
  have hnc7 := NB550_549.out
  have hcz8_0 : w5.cell? ⟨gb549, 0, none⟩ = some (.int .i64 a0_0) := (qh BK549.out 0).trans rfl
  have hcz8_1 : w5.cell? ⟨gb549, 1, none⟩ = some (.int .i64 a0_1) := (qh BK549.out 1).trans rfl
  have hcz8_2 : w5.cell? ⟨gb549, 2, none⟩ = some (.string a0_2) := (qh BK549.out 2).trans rfl
  have hcz8_3 : w5.cell? ⟨gb549, 3, none⟩ = some (.string a0_3) := (qh BK549.out 3).trans rfl
  have hcz8_4 : w5.cell? ⟨gb549, 4, none⟩ = some (.slice A0_4 l0_4.length c0_4) := (qh BK549.out 4).trans rfl
  have hfz8_0 := qg BK549.out 0
  have hfz8_1 := qg BK549.out 1
  have hfz8_2 := qg BK549.out 2
  have hfz8_3 := qg BK549.out 3
  have hfz8_4 := qg BK549.out 4
  have hcz9_0 : w5.cell? ⟨gb550, 0, none⟩ = some (.int .i64 a1_0) := (qh BK550.out 0).trans rfl
  have hcz9_1 : w5.cell? ⟨gb550, 1, none⟩ = some (.int .i64 a1_1) := (qh BK550.out 1).trans rfl
  have hcz9_2 : w5.cell? ⟨gb550, 2, none⟩ = some (.string a1_2) := (qh BK550.out 2).trans rfl
  have hcz9_3 : w5.cell? ⟨gb550, 3, none⟩ = some (.string a1_3) := (qh BK550.out 3).trans rfl
  have hcz9_4 : w5.cell? ⟨gb550, 4, none⟩ = some (.slice A1_4 l1_4.length c1_4) := (qh BK550.out 4).trans rfl
  have hfz9_0 := qg BK550.out 0
  have hfz9_1 := qg BK550.out 1
  have hfz9_2 := qg BK550.out 2
  have hfz9_3 := qg BK550.out 3
  have hfz9_4 := qg BK550.out 4
  go_wp2
  go_meet
  exact ⟨_, (((l0_4.length : Int) != (l1_4.length : Int))), (by first | rfl | (simp; done) | (simp [*]; done)), H', ⟨by first | omega | exact Nat.le_refl _⟩, ⟨by (with_reducible repeat (first | refine qa ?_ _ | refine qb ?_ | refine qc ?_ _)); exact BK549.out⟩, ⟨by (with_reducible repeat (first | refine qa ?_ _ | refine qb ?_ | refine qc ?_ _)); exact BK550.out⟩, ⟨by repeat (first | (with_reducible first | exact HB.out | apply qf | apply qn | apply qe | refine qd ?_ GE549.out | refine qd ?_ GE550.out) | exact HB.out)⟩⟩
 clear HC3
 obtain ⟨kq, x27_2, rfl, HA, HJ2, BK549, BK550, HB⟩ := hcut
 rcases kq with _ | kj2
 · exact absurd HA.out (by simp [hearsayref02_Unify.j0])
 have H := HA.out
 clear HA
 simp only [hearsayref02_Unify.j0] at H
 by_cases c13 : x27_2 = true
 ·
  subst c13
  have H1 : (some (([] : List (S44)), false)) = some (r1, r2) := by rw [if_pos rfl] at H; exact H
  clear H
  have H := H1
  clear H1
  simp only [Option.some.injEq, Prod.mk.injEq] at H
  obtain ⟨rfl, rfl⟩ := H
  go_wp2
  go_ret2
  exact ⟨_, by first | rfl | (simp [errW_none, errW_some] <;> rfl) | (simp [errW_none, errW_some, bne, show ∀ l_ : List UInt8, (l_ == []) = l_.isEmpty from fun l_ => by cases l_ <;> rfl]; done) | (simp [*, errW_none, errW_some] <;> rfl), by first | exact Kd.R_nil _ _ _ _ _ | exact Kd.N_nil _ _ _ _ _ | exact Kd.V_nil _ _ _ _ _ | exact Kd.Q_nil _ _ _ _ _ | exact Kd.S_nil _ _ _ _ _, by repeat (first | (with_reducible first | exact HB.out | apply qf | apply qn | apply qe | refine qd ?_ GE549.out | refine qd ?_ GE550.out) | exact HB.out)⟩
 replace c13 := Bool.eq_false_iff.mpr c13
 subst c13
 have H1 : ((hearsayref02_Places.f a0_0 a0_1 a0_2 a0_3 l0_4).bind fun t551 => ((hearsayref02_Places.f a1_0 a1_1 a1_2 a1_3 l1_4).bind fun t554 => ((hearsayref02_Places.f a0_0 a0_1 a0_2 a0_3 l0_4).bind fun t557 => (if t557.length + t554.length < 4398046511104 then (hearsayref02_Unify.l0 kj2 t551 t554 (t557 ++ t554) ([] : List (S44)) 0 a0_0 a0_1 a0_2 a0_3 l0_4 a1_0 a1_1 a1_2 a1_3 l1_4) else (none))))) = some (r1, r2) := by rw [if_neg (show ¬ (false = true) by decide)] at H; exact H
 clear H
 have H := H1
 clear H1
 replace H := Option.bind_eq_some_iff.mp H
 obtain ⟨t551, A140, H⟩ := H
 replace H : ((hearsayref02_Places.f a1_0 a1_1 a1_2 a1_3 l1_4).bind fun t554 => ((hearsayref02_Places.f a0_0 a0_1 a0_2 a0_3 l0_4).bind fun t557 => (if t557.length + t554.length < 4398046511104 then (hearsayref02_Unify.l0 kj2 t551 t554 (t557 ++ t554) ([] : List (S44)) 0 a0_0 a0_1 a0_2 a0_3 l0_4 a1_0 a1_1 a1_2 a1_3 l1_4) else (none)))) = some (r1, r2) := H
 have A14 := Aside0.mk A140
 clear A140
 replace H := Option.bind_eq_some_iff.mp H
 obtain ⟨t554, A150, H⟩ := H
 replace H : ((hearsayref02_Places.f a0_0 a0_1 a0_2 a0_3 l0_4).bind fun t557 => (if t557.length + t554.length < 4398046511104 then (hearsayref02_Unify.l0 kj2 t551 t554 (t557 ++ t554) ([] : List (S44)) 0 a0_0 a0_1 a0_2 a0_3 l0_4 a1_0 a1_1 a1_2 a1_3 l1_4) else (none))) = some (r1, r2) := H
 have A15 := Aside0.mk A150
 clear A150
 replace H := Option.bind_eq_some_iff.mp H
 obtain ⟨t557, A160, H⟩ := H
 replace H : (if t557.length + t554.length < 4398046511104 then (hearsayref02_Unify.l0 kj2 t551 t554 (t557 ++ t554) ([] : List (S44)) 0 a0_0 a0_1 a0_2 a0_3 l0_4 a1_0 a1_1 a1_2 a1_3 l1_4) else (none)) = some (r1, r2) := H
 have A16 := Aside0.mk A160
 clear A160
 by_cases c17 : t557.length + t554.length < 4398046511104
 rotate_left
 · rw [if_neg c17] at H
   exact absurd H (by simp)
 rw [if_pos c17] at H
 have LMc17 := Aside0.mk c17
 clear c17
 obtain ⟨y560, hy560⟩ : ∃ y_ : List (S23), y_ = (t557 ++ t554) := ⟨_, rfl⟩
 replace H : (hearsayref02_Unify.l0 kj2 t551 t554 y560 ([] : List (S44)) 0 a0_0 a0_1 a0_2 a0_3 l0_4 a1_0 a1_1 a1_2 a1_3 l1_4) = some (r1, r2) := by first | (rw [hy560]; with_reducible exact H) | (have H2_ := (Option.bind_some _ _).symm.trans H; rw [hy560]; with_reducible exact H2_) | (have H2_ := (Option.bind_some _ _).symm.trans H; with_reducible exact H2_) | with_reducible exact H | (rw [hy560]; exact H) | exact H
 have Ny560 := Aside0.mk hy560
 clear hy560
 have H' := Aside0.mk H
 clear H
 have hnb18 := NB549_550.out
 have hnc18 := NB550_549.out
 have hcz19_0 : wc.cell? ⟨gb549, 0, none⟩ = some (.int .i64 a0_0) := (qh BK549.out 0).trans rfl
 have hcz19_1 : wc.cell? ⟨gb549, 1, none⟩ = some (.int .i64 a0_1) := (qh BK549.out 1).trans rfl
 have hcz19_2 : wc.cell? ⟨gb549, 2, none⟩ = some (.string a0_2) := (qh BK549.out 2).trans rfl
 have hcz19_3 : wc.cell? ⟨gb549, 3, none⟩ = some (.string a0_3) := (qh BK549.out 3).trans rfl
 have hcz19_4 : wc.cell? ⟨gb549, 4, none⟩ = some (.slice A0_4 l0_4.length c0_4) := (qh BK549.out 4).trans rfl
 have hfz19_0 := qg BK549.out 0
 have hfz19_1 := qg BK549.out 1
 have hfz19_2 := qg BK549.out 2
 have hfz19_3 := qg BK549.out 3
 have hfz19_4 := qg BK549.out 4
 go_wp2_with (first | ((with_reducible refine gate_callee (f := 53) rfl ?_); refine goesL_ (some 29) rfl rfl Tryd.func53 (by kernel_rfl) rfl #[.agg #[.int .i64 a0_0, .int .i64 a0_1, .string a0_2, .string a0_3, .slice A0_4 l0_4.length c0_4]] rfl (by (try simp only [List.map_toArray, List.map_cons, List.map_nil]); first | done | rfl | (simp only [List.length_drop, List.length_take]; rfl)) ?_; (with_reducible refine (hearsayref02_Places.calls a0_0 a0_1 a0_2 a0_3 _ _ l0_4 t551 _ ?side1 ?side2 A14.out).mono ?_); (case side1 => repeat (first | exact (Kd.C_below HR0_4.out HB.out) | (with_reducible refine Kd.C_alloc ?_ _) | (with_reducible refine Kd.C_drewN ?_ _) | (with_reducible refine Kd.C_drew ?_))); (case side2 => exact HC0_4.out); rintro e w20 ⟨v552, rfl, ho0, hb⟩; refine ⟨_, rfl, ?_⟩; have n0_ := Aside0.mk (Kd.R_lower ho0 (below_size (by repeat (first | (with_reducible first | exact HB.out | apply qf | apply qn | apply qe | refine qd ?_ GE549.out | refine qd ?_ GE550.out) | exact HB.out)))); have n1_ := Aside0.mk (qw (g := gb549) (o := .cells #[.int .i64 a0_0, .int .i64 a0_1, .string a0_2, .string a0_3, .slice A0_4 l0_4.length c0_4] 26 (0, 0)) (by (with_reducible repeat (first | refine qa ?_ _ | refine qb ?_ | refine qc ?_ _)); exact BK549.out) hb); have n2_ := Aside0.mk (qw (g := gb550) (o := .cells #[.int .i64 a1_0, .int .i64 a1_1, .string a1_2, .string a1_3, .slice A1_4 l1_4.length c1_4] 26 (0, 0)) (by (with_reducible repeat (first | refine qa ?_ _ | refine qb ?_ | refine qc ?_ _)); exact BK550.out) hb); have n3_ := Aside0.mk (below_step (by repeat (first | (with_reducible first | exact HB.out | apply qf | apply qn | apply qe | refine qd ?_ GE549.out | refine qd ?_ GE550.out) | exact HB.out)) hb); clear BK549; clear BK550; clear HB; have HO553 := n0_; have BK549 := n1_; have BK550 := n2_; have HB := n3_; clear n0_ n1_ n2_ n3_; (try clear hb); (try clear hb2); (try clear hk); (try clear hi); (try clear ho0); have hcz21_0 : w20.cell? ⟨gb550, 0, none⟩ = some (.int .i64 a1_0) := (qh BK550.out 0).trans rfl; have hcz21_1 : w20.cell? ⟨gb550, 1, none⟩ = some (.int .i64 a1_1) := (qh BK550.out 1).trans rfl; have hcz21_2 : w20.cell? ⟨gb550, 2, none⟩ = some (.string a1_2) := (qh BK550.out 2).trans rfl; have hcz21_3 : w20.cell? ⟨gb550, 3, none⟩ = some (.string a1_3) := (qh BK550.out 3).trans rfl; have hcz21_4 : w20.cell? ⟨gb550, 4, none⟩ = some (.slice A1_4 l1_4.length c1_4) := (qh BK550.out 4).trans rfl; have hfz21_0 := qg BK550.out 0; have hfz21_1 := qg BK550.out 1; have hfz21_2 := qg BK550.out 2; have hfz21_3 := qg BK550.out 3; have hfz21_4 := qg BK550.out 4) | ((with_reducible refine gate_callee (f := 53) rfl ?_); refine goesL_ (some 31) rfl rfl Tryd.func53 (by kernel_rfl) rfl #[.agg #[.int .i64 a1_0, .int .i64 a1_1, .string a1_2, .string a1_3, .slice A1_4 l1_4.length c1_4]] rfl (by (try simp only [List.map_toArray, List.map_cons, List.map_nil]); first | done | rfl | (simp only [List.length_drop, List.length_take]; rfl)) ?_; (with_reducible refine (hearsayref02_Places.calls a1_0 a1_1 a1_2 a1_3 _ _ l1_4 t554 _ ?side1 ?side2 A15.out).mono ?_); (case side1 => repeat (first | exact (Kd.C_below HR1_4.out HB.out) | (with_reducible refine Kd.C_alloc ?_ _) | (with_reducible refine Kd.C_drewN ?_ _) | (with_reducible refine Kd.C_drew ?_))); (case side2 => exact HC1_4.out); rintro e w22 ⟨v555, rfl, ho0, hb⟩; refine ⟨_, rfl, ?_⟩; have n0_ := Aside0.mk (Kd.R_elder' (by (with_reducible repeat (first | apply qz | apply qx | apply qy)); exact HO553.out) (Kd.R_base ho0) hb); have n1_ := Aside0.mk (Kd.R_lower (Kd.R_new' ho0 (Kd.R_lt (by (with_reducible repeat (first | apply qz | apply qx | apply qy)); exact HO553.out))) (below_size (by repeat (first | (with_reducible first | exact HB.out | apply qf | apply qn | apply qe | refine qd ?_ GE549.out | refine qd ?_ GE550.out) | exact HB.out)))); have n2_ := Aside0.mk (qw (g := gb549) (o := .cells #[.int .i64 a0_0, .int .i64 a0_1, .string a0_2, .string a0_3, .slice A0_4 l0_4.length c0_4] 26 (0, 0)) (by (with_reducible repeat (first | refine qa ?_ _ | refine qb ?_ | refine qc ?_ _)); exact BK549.out) hb); have n3_ := Aside0.mk (qw (g := gb550) (o := .cells #[.int .i64 a1_0, .int .i64 a1_1, .string a1_2, .string a1_3, .slice A1_4 l1_4.length c1_4] 26 (0, 0)) (by (with_reducible repeat (first | refine qa ?_ _ | refine qb ?_ | refine qc ?_ _)); exact BK550.out) hb); have n4_ := Aside0.mk (below_step (by repeat (first | (with_reducible first | exact HB.out | apply qf | apply qn | apply qe | refine qd ?_ GE549.out | refine qd ?_ GE550.out) | exact HB.out)) hb); clear HO553; clear BK549; clear BK550; clear HB; have HO553 := n0_; have HO556 := n1_; have BK549 := n2_; have BK550 := n3_; have HB := n4_; clear n0_ n1_ n2_ n3_ n4_; (try clear hb); (try clear hb2); (try clear hk); (try clear hi); (try clear ho0); have hcz23_0 : w22.cell? ⟨gb549, 0, none⟩ = some (.int .i64 a0_0) := (qh BK549.out 0).trans rfl; have hcz23_1 : w22.cell? ⟨gb549, 1, none⟩ = some (.int .i64 a0_1) := (qh BK549.out 1).trans rfl; have hcz23_2 : w22.cell? ⟨gb549, 2, none⟩ = some (.string a0_2) := (qh BK549.out 2).trans rfl; have hcz23_3 : w22.cell? ⟨gb549, 3, none⟩ = some (.string a0_3) := (qh BK549.out 3).trans rfl; have hcz23_4 : w22.cell? ⟨gb549, 4, none⟩ = some (.slice A0_4 l0_4.length c0_4) := (qh BK549.out 4).trans rfl; have hfz23_0 := qg BK549.out 0; have hfz23_1 := qg BK549.out 1; have hfz23_2 := qg BK549.out 2; have hfz23_3 := qg BK549.out 3; have hfz23_4 := qg BK549.out 4) | ((with_reducible refine gate_callee (f := 53) rfl ?_); refine goesL_ (some 33) rfl rfl Tryd.func53 (by kernel_rfl) rfl #[.agg #[.int .i64 a0_0, .int .i64 a0_1, .string a0_2, .string a0_3, .slice A0_4 l0_4.length c0_4]] rfl (by (try simp only [List.map_toArray, List.map_cons, List.map_nil]); first | done | rfl | (simp only [List.length_drop, List.length_take]; rfl)) ?_; (with_reducible refine (hearsayref02_Places.calls a0_0 a0_1 a0_2 a0_3 _ _ l0_4 t557 _ ?side1 ?side2 A16.out).mono ?_); (case side1 => repeat (first | exact (Kd.C_below HR0_4.out HB.out) | (with_reducible refine Kd.C_alloc ?_ _) | (with_reducible refine Kd.C_drewN ?_ _) | (with_reducible refine Kd.C_drew ?_))); (case side2 => exact HC0_4.out); rintro e w24 ⟨v558, rfl, ho0, hb⟩; refine ⟨_, rfl, ?_⟩; have n0_ := Aside0.mk (Kd.R_elder' (by (with_reducible repeat (first | apply qz | apply qx | apply qy)); exact HO553.out) (Kd.R_base ho0) hb); have n1_ := Aside0.mk (Kd.R_elder' (by (with_reducible repeat (first | apply qz | apply qx | apply qy)); exact HO556.out) (Kd.R_base ho0) hb); have n2_ := Aside0.mk (Kd.R_lower (Kd.R_new' (Kd.R_new' ho0 (Kd.R_lt (by (with_reducible repeat (first | apply qz | apply qx | apply qy)); exact HO553.out))) (Kd.R_lt (by (with_reducible repeat (first | apply qz | apply qx | apply qy)); exact HO556.out))) (below_size (by repeat (first | (with_reducible first | exact HB.out | apply qf | apply qn | apply qe | refine qd ?_ GE549.out | refine qd ?_ GE550.out) | exact HB.out)))); have n3_ := Aside0.mk (qw (g := gb549) (o := .cells #[.int .i64 a0_0, .int .i64 a0_1, .string a0_2, .string a0_3, .slice A0_4 l0_4.length c0_4] 26 (0, 0)) (by (with_reducible repeat (first | refine qa ?_ _ | refine qb ?_ | refine qc ?_ _)); exact BK549.out) hb); have n4_ := Aside0.mk (qw (g := gb550) (o := .cells #[.int .i64 a1_0, .int .i64 a1_1, .string a1_2, .string a1_3, .slice A1_4 l1_4.length c1_4] 26 (0, 0)) (by (with_reducible repeat (first | refine qa ?_ _ | refine qb ?_ | refine qc ?_ _)); exact BK550.out) hb); have n5_ := Aside0.mk (below_step (by repeat (first | (with_reducible first | exact HB.out | apply qf | apply qn | apply qe | refine qd ?_ GE549.out | refine qd ?_ GE550.out) | exact HB.out)) hb); clear HO553; clear HO556; clear BK549; clear BK550; clear HB; have HO553 := n0_; have HO556 := n1_; have HO559 := n2_; have BK549 := n3_; have BK550 := n4_; have HB := n5_; clear n0_ n1_ n2_ n3_ n4_ n5_; (try clear hb); (try clear hb2); (try clear hk); (try clear hi); (try clear ho0); obtain ⟨Ao26, co26, eo26⟩ := Kd.R_slice HO556.out; subst eo26) | ((with_reducible refine gate_builtin (b := .append) (xs := #[.tmp 33, .tmp 34]) rfl ?_); (try (refine gate_guard (by rfl) ?_; dsimp only)); at_builtin; refine Kd.R_append_rows k23 (w0 := w) w.heap.size rfl (.tmp 33) (.tmp 34) 24 23 (.agg #[(.int .i64 0), (.int .i64 0), (.string ⟨#[]⟩)]) 32 rfl Tryd.underlying24 info23 rfl (by decide) (by omega) v558 t557 t554 _ _ _ (fun k_ => some k_ ≠ (v552 : Value).ownBlock ∧ some k_ ≠ (.slice Ao26 t554.length co26 : Value).ownBlock) (fun _ => False) rfl rfl ?aO ?aR (fun _ _ h => h) (fun _ h => h.elim) ?aF ?aB ?aS ?aL ?_; (case aR => repeat (first | exact (Kd.R_reads' HO556.out).2.2 | (with_reducible refine Kd.C_alloc ?_ _) | (with_reducible refine Kd.C_drewN ?_ _) | (with_reducible refine Kd.C_drew ?_))); (case aB => exact (by repeat (first | (with_reducible first | exact HB.out | apply qf | apply qn | apply qe | refine qd ?_ GE549.out | refine qd ?_ GE550.out) | exact HB.out))); (case aF => exact (fun k_ hk => ⟨Kd.fresh' (Kd.R_lt (by (with_reducible repeat (first | apply qz | apply qx | apply qy)); exact HO553.out)) k_ hk, Kd.fresh' (Kd.R_lt (by (with_reducible repeat (first | apply qz | apply qx | apply qy)); exact HO556.out)) k_ hk⟩)); (case aO => exact (by (with_reducible repeat (first | apply qz | apply qx | apply qy)); exact Kd.R_mono HO559.out (fun _ hk => ⟨hk.1.2, hk.2⟩))); (case aS => exact (below_size (by repeat (first | (with_reducible first | exact HB.out | apply qf | apply qn | apply qe | refine qd ?_ GE549.out | refine qd ?_ GE550.out) | exact HB.out)))); (case aL => have := LMc17.out; omega); intro v561 w25 ho hb hg hat; rw [← Ny560.out] at ho; have n0_ := Aside0.mk (blk_grown (g := gb549) (o := .cells #[.int .i64 a0_0, .int .i64 a0_1, .string a0_2, .string a0_3, .slice A0_4 l0_4.length c0_4] 26 (0, 0)) (by (with_reducible repeat (first | refine qa ?_ _ | refine qb ?_ | refine qc ?_ _)); exact BK549.out) hg (Kd.R_ne HO559.out BK549.out (by decide))); have n1_ := Aside0.mk (blk_grown (g := gb550) (o := .cells #[.int .i64 a1_0, .int .i64 a1_1, .string a1_2, .string a1_3, .slice A1_4 l1_4.length c1_4] 26 (0, 0)) (by (with_reducible repeat (first | refine qa ?_ _ | refine qb ?_ | refine qc ?_ _)); exact BK550.out) hg (Kd.R_ne HO559.out BK550.out (by decide))); have n2_ := Aside0.mk (Kd.R_after (ok := (fun k_ => some k_ ≠ (.slice Ao26 t554.length co26 : Value).ownBlock)) (by (with_reducible repeat (first | apply qz | apply qx | apply qy)); exact Kd.R_mono HO553.out (fun _ hk => ⟨hk.1.2, hk.2⟩)) hg hat); have n3_ := Aside0.mk (Kd.R_after (ok := (fun k_ => some k_ ≠ (v552 : Value).ownBlock)) (by (with_reducible repeat (first | apply qz | apply qx | apply qy)); exact Kd.R_mono HO556.out (fun _ hk => ⟨hk.1.2, hk.2⟩)) hg hat); have n4_ := Aside0.mk (hb); have n5_ := Aside0.mk (ho); clear BK549; clear BK550; clear HO553; clear HO556; clear HB; clear HO559; have BK549 := n0_; have BK550 := n1_; have HO553 := n2_; have HO556 := n3_; have HB := n4_; have HO562 := n5_; clear n0_ n1_ n2_ n3_ n4_ n5_; clear ho hb hg hat))
 go_loopg [9, 10] kj2 (fun kq v9 v10 w' => ∃ (x9_2 : List (S44)) (x10_2 : Int), v10 = .int .i64 x10_2 ∧ Aside0 (hearsayref02_Unify.l0 kq t551 t554 y560 x9_2 x10_2 a0_0 a0_1 a0_2 a0_3 l0_4 a1_0 a1_1 a1_2 a1_3 l1_4 = some (r1, r2)) ∧ Aside0 (kq ≤ kj2) ∧ Aside0 (Kd.R k23 23 w' w.heap.size (fun k_ => some k_ ≠ ((.slice Ao26 t554.length co26) : Value).ownBlock ∧ some k_ ≠ (v561 : Value).ownBlock) v552 t551) ∧ Aside0 (Kd.R k23 23 w' w.heap.size (fun k_ => some k_ ≠ (v552 : Value).ownBlock ∧ some k_ ≠ (v561 : Value).ownBlock) (.slice Ao26 t554.length co26) t554) ∧ Aside0 (Kd.R k23 23 w' w.heap.size (fun k_ => some k_ ≠ (v552 : Value).ownBlock ∧ some k_ ≠ ((.slice Ao26 t554.length co26) : Value).ownBlock) v561 y560) ∧ Aside0 (Kd.R k44 44 w' w.heap.size (fun _ => True) v9 x9_2) ∧ Aside0 (w'.heap[gb549]? = some (.cells #[.int .i64 a0_0, .int .i64 a0_1, .string a0_2, .string a0_3, (.slice A0_4 l0_4.length c0_4)] 26 (0, 0))) ∧ Aside0 (w'.heap[gb550]? = some (.cells #[.int .i64 a1_0, .int .i64 a1_1, .string a1_2, .string a1_3, (.slice A1_4 l1_4.length c1_4)] 26 (0, 0))) ∧ Aside0 (Below w.heap.size w w'))
 case atStart => exact ⟨(([] : List (S44))), (0), (by first | rfl | (simp; done) | (simp [*]; done)), H', ⟨Nat.le_refl _⟩, ⟨by (with_reducible repeat (first | apply qz | apply qx | apply qy)); exact HO553.out⟩, ⟨by (with_reducible repeat (first | apply qz | apply qx | apply qy)); exact HO556.out⟩, ⟨by (with_reducible repeat (first | apply qz | apply qx | apply qy)); exact HO562.out⟩, ⟨by first | exact Kd.R_nil _ _ _ _ _ | exact Kd.N_nil _ _ _ _ _ | exact Kd.V_nil _ _ _ _ _ | exact Kd.Q_nil _ _ _ _ _ | exact Kd.S_nil _ _ _ _ _⟩, ⟨by (with_reducible repeat (first | refine qa ?_ _ | refine qb ?_ | refine qc ?_ _)); exact BK549.out⟩, ⟨by (with_reducible repeat (first | refine qa ?_ _ | refine qb ?_ | refine qc ?_ _)); exact BK550.out⟩, ⟨by repeat (first | (with_reducible first | exact HB.out | apply qf | apply qn | apply qe | refine qd ?_ GE549.out | refine qd ?_ GE550.out) | exact HB.out)⟩⟩
 clear H'
 obtain ⟨x9_2, x10_2, rfl, HA, HK2, HO_6, HO_7, HO_8, HO_9, BK549, BK550, HB⟩ := hrel
 rcases gk with _ | k2
 · exact absurd HA.out (by simp [hearsayref02_Unify.l0])
 have H := HA.out
 clear HA
 simp only [hearsayref02_Unify.l0] at H
 by_cases c27 : x10_2 < (y560.length : Int)
 rotate_left
 ·
  rw [if_neg c27] at H
  have c27b0 : decide (x10_2 < (y560.length : Int)) = false := decide_eq_false c27
  clear c27
  replace H := Option.bind_eq_some_iff.mp H
  obtain ⟨t563, A790, H⟩ := H
  replace H : (some (t563, true)) = some (r1, r2) := H
  have A79 := Aside0.mk A790
  clear A790
  simp only [Option.some.injEq, Prod.mk.injEq] at H
  obtain ⟨rfl, rfl⟩ := H
  obtain ⟨Ao80, co80, eo80⟩ := Kd.R_slice HO_8.out
  subst eo80
  obtain ⟨Ao81, co81, eo81⟩ := Kd.R_slice HO_9.out
  subst eo81
  go_wp2_with (first | ((with_reducible refine gate_callee (f := 55) rfl ?_); refine goesL_ (some 118) rfl rfl Tryd.func55 (by kernel_rfl) rfl #[.slice Ao81 x9_2.length co81] rfl (by (try simp only [List.map_toArray, List.map_cons, List.map_nil]); first | done | rfl | (simp only [List.length_drop, List.length_take]; rfl)) ?_; (with_reducible refine (hearsayref02_Settled.calls k2 _ _ x9_2 t563 _ ?side1 ?side2 A79.out).mono ?_); (case side1 => repeat (first | exact (Kd.R_reads' HO_9.out).2.2 | (with_reducible refine Kd.C_alloc ?_ _) | (with_reducible refine Kd.C_drewN ?_ _) | (with_reducible refine Kd.C_drew ?_))); (case side2 => exact (Kd.R_reads' HO_9.out).2.1); rintro e w82 ⟨v564, rfl, ho0, hb⟩; refine ⟨_, rfl, ?_⟩; have n0_ := Aside0.mk (Kd.R_below (by (with_reducible repeat (first | apply qz | apply qx | apply qy)); exact HO_6.out) hb); have n1_ := Aside0.mk (Kd.R_below (by (with_reducible repeat (first | apply qz | apply qx | apply qy)); exact HO_7.out) hb); have n2_ := Aside0.mk (Kd.R_below (by (with_reducible repeat (first | apply qz | apply qx | apply qy)); exact HO_8.out) hb); have n3_ := Aside0.mk (Kd.R_elder' (by (with_reducible repeat (first | apply qz | apply qx | apply qy)); exact HO_9.out) (Kd.R_base ho0) hb); have n4_ := Aside0.mk (Kd.R_lower (Kd.R_new' ho0 (Kd.R_lt (by (with_reducible repeat (first | apply qz | apply qx | apply qy)); exact HO_9.out))) (below_size (by repeat (first | (with_reducible first | exact HB.out | apply qf | apply qn | apply qe | refine qd ?_ GE549.out | refine qd ?_ GE550.out) | exact HB.out)))); have n5_ := Aside0.mk (qw (g := gb549) (o := .cells #[.int .i64 a0_0, .int .i64 a0_1, .string a0_2, .string a0_3, .slice A0_4 l0_4.length c0_4] 26 (0, 0)) (by (with_reducible repeat (first | refine qa ?_ _ | refine qb ?_ | refine qc ?_ _)); exact BK549.out) hb); have n6_ := Aside0.mk (qw (g := gb550) (o := .cells #[.int .i64 a1_0, .int .i64 a1_1, .string a1_2, .string a1_3, .slice A1_4 l1_4.length c1_4] 26 (0, 0)) (by (with_reducible repeat (first | refine qa ?_ _ | refine qb ?_ | refine qc ?_ _)); exact BK550.out) hb); have n7_ := Aside0.mk (below_step (by repeat (first | (with_reducible first | exact HB.out | apply qf | apply qn | apply qe | refine qd ?_ GE549.out | refine qd ?_ GE550.out) | exact HB.out)) hb); clear HO_6; clear HO_7; clear HO_8; clear HO_9; clear BK549; clear BK550; clear HB; have HO_6 := n0_; have HO_7 := n1_; have HO_8 := n2_; have HO_9 := n3_; have HO565 := n4_; have BK549 := n5_; have BK550 := n6_; have HB := n7_; clear n0_ n1_ n2_ n3_ n4_ n5_ n6_ n7_; (try clear hb); (try clear hb2); (try clear hk); (try clear hi); (try clear ho0)))
  go_ret2
  exact ⟨_, by first | rfl | (simp [errW_none, errW_some] <;> rfl) | (simp [errW_none, errW_some, bne, show ∀ l_ : List UInt8, (l_ == []) = l_.isEmpty from fun l_ => by cases l_ <;> rfl]; done) | (simp [*, errW_none, errW_some] <;> rfl), by (with_reducible repeat (first | apply qz | apply qx | apply qy)); exact Kd.R_mono HO565.out (fun _ hk => trivial), by repeat (first | (with_reducible first | exact HB.out | apply qf | apply qn | apply qe | refine qd ?_ GE549.out | refine qd ?_ GE550.out) | exact HB.out)⟩
 rw [if_pos c27] at H
 have c27b0 : decide (x10_2 < (y560.length : Int)) = true := decide_eq_true c27
 clear c27
 by_cases c28 : 0 ≤ x10_2
 rotate_left
 · rw [if_neg c28] at H
   exact absurd H (by simp)
 rw [if_pos c28] at H
 have c28b0 : decide (0 ≤ x10_2) = true := decide_eq_true c28
 clear c28
 replace H := Option.bind_eq_some_iff.mp H
 obtain ⟨t567, A290, H⟩ := H
 replace H : ((hearsayref02_fixed.f k2 t567).bind fun t570 => (if (((rd_T23 y560 x10_2).f0) == a0_0 && (((rd_T23 y560 x10_2).f1) == a0_1 && ((((rd_T23 y560 x10_2).f2).toList) == a0_2.toList))) = true then (hearsayref02_Unify.j2 k2 t551 t554 y560 x9_2 x10_2 t567 t570 true a0_0 a0_1 a0_2 a0_3 l0_4 a1_0 a1_1 a1_2 a1_3 l1_4) else (hearsayref02_Unify.j2 k2 t551 t554 y560 x9_2 x10_2 t567 t570 (((rd_T23 y560 x10_2).f0) == a1_0 && (((rd_T23 y560 x10_2).f1) == a1_1 && ((((rd_T23 y560 x10_2).f2).toList) == a1_2.toList))) a0_0 a0_1 a0_2 a0_3 l0_4 a1_0 a1_1 a1_2 a1_3 l1_4))) = some (r1, r2) := H
 have A29 := Aside0.mk A290
 clear A290
 replace H := Option.bind_eq_some_iff.mp H
 obtain ⟨t570, A300, H⟩ := H
 replace H : (if (((rd_T23 y560 x10_2).f0) == a0_0 && (((rd_T23 y560 x10_2).f1) == a0_1 && ((((rd_T23 y560 x10_2).f2).toList) == a0_2.toList))) = true then (hearsayref02_Unify.j2 k2 t551 t554 y560 x9_2 x10_2 t567 t570 true a0_0 a0_1 a0_2 a0_3 l0_4 a1_0 a1_1 a1_2 a1_3 l1_4) else (hearsayref02_Unify.j2 k2 t551 t554 y560 x9_2 x10_2 t567 t570 (((rd_T23 y560 x10_2).f0) == a1_0 && (((rd_T23 y560 x10_2).f1) == a1_1 && ((((rd_T23 y560 x10_2).f2).toList) == a1_2.toList))) a0_0 a0_1 a0_2 a0_3 l0_4 a1_0 a1_1 a1_2 a1_3 l1_4)) = some (r1, r2) := H
 have A30 := Aside0.mk A300
 clear A300
 have HC31 := Aside0.mk H
 clear H
 obtain ⟨Ao32, co32, eo32⟩ := Kd.R_slice HO_8.out
 subst eo32
 have p566 : 0 ≤ (x10_2 : Int) := of_decide_eq_true (by first | (with_reducible assumption) | assumption)
 have q566 : x10_2 < (y560.length : Int) := of_decide_eq_true (by first | (with_reducible assumption) | assumption)
 obtain ⟨ad566, e566, hx566_0, hx566_1, hx566_2⟩ := at_T23 (Kd.R_reads' HO_8.out).2.2 x10_2 p566 q566
 cases e566
 replace p566 := eq_true p566
 replace q566 := eq_true q566
 obtain ⟨Ao33, co33, eo33⟩ := Kd.R_slice HO_6.out
 subst eo33
 go_upto_region 12 with (first | ((with_reducible refine gate_callee (f := 62) rfl ?_); refine goesL_ (some 48) rfl rfl Tryd.func62 (by kernel_rfl) rfl #[.slice Ao33 t551.length co33, .slice Ao26 t554.length co26, .agg #[.int .i64 ((rd_T23 y560 x10_2).f0), .int .i64 ((rd_T23 y560 x10_2).f1), .string ((rd_T23 y560 x10_2).f2)]] rfl (by (try simp only [List.map_toArray, List.map_cons, List.map_nil]); first | done | rfl | (simp only [List.length_drop, List.length_take]; rfl)) ?_; (with_reducible refine (hearsayref02_Class.calls k2 _ _ t551 _ _ t554 ((rd_T23 y560 x10_2).f0) ((rd_T23 y560 x10_2).f1) ((rd_T23 y560 x10_2).f2) t567 _ ?side1 ?side2 ?side3 ?side4 A29.out).mono ?_); (case side1 => repeat (first | exact (Kd.R_reads' HO_6.out).2.2 | (with_reducible refine Kd.C_alloc ?_ _) | (with_reducible refine Kd.C_drewN ?_ _) | (with_reducible refine Kd.C_drew ?_))); (case side2 => exact (Kd.R_reads' HO_6.out).2.1); (case side3 => repeat (first | exact (Kd.R_reads' HO_7.out).2.2 | (with_reducible refine Kd.C_alloc ?_ _) | (with_reducible refine Kd.C_drewN ?_ _) | (with_reducible refine Kd.C_drew ?_))); (case side4 => exact (Kd.R_reads' HO_7.out).2.1); rintro e w34 ⟨v568, rfl, ho0, hb⟩; refine ⟨_, rfl, ?_⟩; have n0_ := Aside0.mk (Kd.R_elder' (by (with_reducible repeat (first | apply qz | apply qx | apply qy)); exact HO_6.out) (Kd.R_base ho0) hb); have n1_ := Aside0.mk (Kd.R_elder' (by (with_reducible repeat (first | apply qz | apply qx | apply qy)); exact HO_7.out) (Kd.R_base ho0) hb); have n2_ := Aside0.mk (Kd.R_elder' (by (with_reducible repeat (first | apply qz | apply qx | apply qy)); exact HO_8.out) (Kd.R_base ho0) hb); have n3_ := Aside0.mk (Kd.R_below (by (with_reducible repeat (first | apply qz | apply qx | apply qy)); exact HO_9.out) hb); have n4_ := Aside0.mk (Kd.R_lower (Kd.R_new' (Kd.R_new' (Kd.R_new' ho0 (Kd.R_lt (by (with_reducible repeat (first | apply qz | apply qx | apply qy)); exact HO_6.out))) (Kd.R_lt (by (with_reducible repeat (first | apply qz | apply qx | apply qy)); exact HO_7.out))) (Kd.R_lt (by (with_reducible repeat (first | apply qz | apply qx | apply qy)); exact HO_8.out))) (below_size (by repeat (first | (with_reducible first | exact HB.out | apply qf | apply qn | apply qe | refine qd ?_ GE549.out | refine qd ?_ GE550.out) | exact HB.out)))); have n5_ := Aside0.mk (qw (g := gb549) (o := .cells #[.int .i64 a0_0, .int .i64 a0_1, .string a0_2, .string a0_3, .slice A0_4 l0_4.length c0_4] 26 (0, 0)) (by (with_reducible repeat (first | refine qa ?_ _ | refine qb ?_ | refine qc ?_ _)); exact BK549.out) hb); have n6_ := Aside0.mk (qw (g := gb550) (o := .cells #[.int .i64 a1_0, .int .i64 a1_1, .string a1_2, .string a1_3, .slice A1_4 l1_4.length c1_4] 26 (0, 0)) (by (with_reducible repeat (first | refine qa ?_ _ | refine qb ?_ | refine qc ?_ _)); exact BK550.out) hb); have n7_ := Aside0.mk (below_step (by repeat (first | (with_reducible first | exact HB.out | apply qf | apply qn | apply qe | refine qd ?_ GE549.out | refine qd ?_ GE550.out) | exact HB.out)) hb); clear HO_6; clear HO_7; clear HO_8; clear HO_9; clear BK549; clear BK550; clear HB; have HO_6 := n0_; have HO_7 := n1_; have HO_8 := n2_; have HO_9 := n3_; have HO569 := n4_; have BK549 := n5_; have BK550 := n6_; have HB := n7_; clear n0_ n1_ n2_ n3_ n4_ n5_ n6_ n7_; (try clear hb); (try clear hb2); (try clear hk); (try clear hi); (try clear ho0); obtain ⟨Ao35, co35, eo35⟩ := Kd.R_slice HO569.out; subst eo35) | ((with_reducible refine gate_callee (f := 63) rfl ?_); refine goesL_ (some 50) rfl rfl Tryd.func63 (by kernel_rfl) rfl #[.slice Ao35 t567.length co35] rfl (by (try simp only [List.map_toArray, List.map_cons, List.map_nil]); first | done | rfl | (simp only [List.length_drop, List.length_take]; rfl)) ?_; (with_reducible refine (hearsayref02_fixed.calls k2 _ _ t567 t570 _ ?side1 ?side2 A30.out).mono ?_); (case side1 => repeat (first | exact (Kd.R_reads' HO569.out).2.2 | (with_reducible refine Kd.C_alloc ?_ _) | (with_reducible refine Kd.C_drewN ?_ _) | (with_reducible refine Kd.C_drew ?_))); (case side2 => exact (Kd.R_reads' HO569.out).2.1); rintro e w36 ⟨v571, rfl, ho0, hb⟩; refine ⟨_, rfl, ?_⟩; have n0_ := Aside0.mk (Kd.R_elder' (by (with_reducible repeat (first | apply qz | apply qx | apply qy)); exact HO_6.out) (Kd.R_base ho0) hb); have n1_ := Aside0.mk (Kd.R_elder' (by (with_reducible repeat (first | apply qz | apply qx | apply qy)); exact HO_7.out) (Kd.R_base ho0) hb); have n2_ := Aside0.mk (Kd.R_elder' (by (with_reducible repeat (first | apply qz | apply qx | apply qy)); exact HO_8.out) (Kd.R_base ho0) hb); have n3_ := Aside0.mk (Kd.R_below (by (with_reducible repeat (first | apply qz | apply qx | apply qy)); exact HO_9.out) hb); have n4_ := Aside0.mk (Kd.R_elder' (by (with_reducible repeat (first | apply qz | apply qx | apply qy)); exact HO569.out) (Kd.R_base ho0) hb); have n5_ := Aside0.mk (Kd.R_lower (Kd.R_new' (Kd.R_new' (Kd.R_new' (Kd.R_new' ho0 (Kd.R_lt (by (with_reducible repeat (first | apply qz | apply qx | apply qy)); exact HO_6.out))) (Kd.R_lt (by (with_reducible repeat (first | apply qz | apply qx | apply qy)); exact HO_7.out))) (Kd.R_lt (by (with_reducible repeat (first | apply qz | apply qx | apply qy)); exact HO_8.out))) (Kd.R_lt (by (with_reducible repeat (first | apply qz | apply qx | apply qy)); exact HO569.out))) (below_size (by repeat (first | (with_reducible first | exact HB.out | apply qf | apply qn | apply qe | refine qd ?_ GE549.out | refine qd ?_ GE550.out) | exact HB.out)))); have n6_ := Aside0.mk (qw (g := gb549) (o := .cells #[.int .i64 a0_0, .int .i64 a0_1, .string a0_2, .string a0_3, .slice A0_4 l0_4.length c0_4] 26 (0, 0)) (by (with_reducible repeat (first | refine qa ?_ _ | refine qb ?_ | refine qc ?_ _)); exact BK549.out) hb); have n7_ := Aside0.mk (qw (g := gb550) (o := .cells #[.int .i64 a1_0, .int .i64 a1_1, .string a1_2, .string a1_3, .slice A1_4 l1_4.length c1_4] 26 (0, 0)) (by (with_reducible repeat (first | refine qa ?_ _ | refine qb ?_ | refine qc ?_ _)); exact BK550.out) hb); have n8_ := Aside0.mk (below_step (by repeat (first | (with_reducible first | exact HB.out | apply qf | apply qn | apply qe | refine qd ?_ GE549.out | refine qd ?_ GE550.out) | exact HB.out)) hb); clear HO_6; clear HO_7; clear HO_8; clear HO_9; clear HO569; clear BK549; clear BK550; clear HB; have HO_6 := n0_; have HO_7 := n1_; have HO_8 := n2_; have HO_9 := n3_; have HO569 := n4_; have HO572 := n5_; have BK549 := n6_; have BK550 := n7_; have HB := n8_; clear n0_ n1_ n2_ n3_ n4_ n5_ n6_ n7_ n8_; (try clear hb); (try clear hb2); (try clear hk); (try clear hi); (try clear ho0)))
 (try simp only [Act.put, List.setIfInBounds_toArray, List.set_cons_zero, List.set_cons_succ])
 go_cut [13] (fun v13 wc => ∃ (kq : Nat) (x13_30 : Bool), v13 = .bool x13_30 ∧ Aside0 (hearsayref02_Unify.j2 kq t551 t554 y560 x9_2 x10_2 t567 t570 x13_30 a0_0 a0_1 a0_2 a0_3 l0_4 a1_0 a1_1 a1_2 a1_3 l1_4 = some (r1, r2)) ∧ Aside0 (kq ≤ k2) ∧ Aside0 (Kd.R k23 23 wc w.heap.size (fun k_ => some k_ ≠ ((.slice Ao26 t554.length co26) : Value).ownBlock ∧ some k_ ≠ ((.slice (some ad566) y560.length co32) : Value).ownBlock ∧ some k_ ≠ ((.slice Ao35 t567.length co35) : Value).ownBlock ∧ some k_ ≠ (v571 : Value).ownBlock) (.slice Ao33 t551.length co33) t551) ∧ Aside0 (Kd.R k23 23 wc w.heap.size (fun k_ => some k_ ≠ ((.slice Ao33 t551.length co33) : Value).ownBlock ∧ some k_ ≠ ((.slice (some ad566) y560.length co32) : Value).ownBlock ∧ some k_ ≠ ((.slice Ao35 t567.length co35) : Value).ownBlock ∧ some k_ ≠ (v571 : Value).ownBlock) (.slice Ao26 t554.length co26) t554) ∧ Aside0 (Kd.R k23 23 wc w.heap.size (fun k_ => some k_ ≠ ((.slice Ao33 t551.length co33) : Value).ownBlock ∧ some k_ ≠ ((.slice Ao26 t554.length co26) : Value).ownBlock ∧ some k_ ≠ ((.slice Ao35 t567.length co35) : Value).ownBlock ∧ some k_ ≠ (v571 : Value).ownBlock) (.slice (some ad566) y560.length co32) y560) ∧ Aside0 (Kd.R k44 44 wc w.heap.size (fun _ => True) u9 x9_2) ∧ Aside0 (Kd.R k23 23 wc w.heap.size (fun k_ => some k_ ≠ ((.slice Ao33 t551.length co33) : Value).ownBlock ∧ some k_ ≠ ((.slice Ao26 t554.length co26) : Value).ownBlock ∧ some k_ ≠ ((.slice (some ad566) y560.length co32) : Value).ownBlock ∧ some k_ ≠ (v571 : Value).ownBlock) (.slice Ao35 t567.length co35) t567) ∧ Aside0 (Kd.R k23 23 wc w.heap.size (fun k_ => some k_ ≠ ((.slice Ao33 t551.length co33) : Value).ownBlock ∧ some k_ ≠ ((.slice Ao26 t554.length co26) : Value).ownBlock ∧ some k_ ≠ ((.slice (some ad566) y560.length co32) : Value).ownBlock ∧ some k_ ≠ ((.slice Ao35 t567.length co35) : Value).ownBlock) v571 t570) ∧ Aside0 (wc.heap[gb549]? = some (.cells #[.int .i64 a0_0, .int .i64 a0_1, .string a0_2, .string a0_3, (.slice A0_4 l0_4.length c0_4)] 26 (0, 0))) ∧ Aside0 (wc.heap[gb550]? = some (.cells #[.int .i64 a1_0, .int .i64 a1_1, .string a1_2, .string a1_3, (.slice A1_4 l1_4.length c1_4)] 26 (0, 0))) ∧ Aside0 (Below w.heap.size w wc))
 case first =>
  have H := HC31.out
  clear HC31
  by_cases c37 : (((rd_T23 y560 x10_2).f0) == a0_0 && (((rd_T23 y560 x10_2).f1) == a0_1 && ((((rd_T23 y560 x10_2).f2).toList) == a0_2.toList))) = true
  ·
   rw [if_pos c37] at H
   have c37b0 : (((rd_T23 y560 x10_2).f0) == a0_0 && (((rd_T23 y560 x10_2).f1) == a0_1 && ((((rd_T23 y560 x10_2).f2).toList) == a0_2.toList))) = true := c37
   (try (have c37b1 : decide (((rd_T23 y560 x10_2).f0) = a0_0 && (((rd_T23 y560 x10_2).f1) == a0_1 && ((((rd_T23 y560 x10_2).f2).toList) == a0_2.toList))) = true := by simpa using c37))
   (try (have c37b2 : (((rd_T23 y560 x10_2).f0) == a0_0 && (((rd_T23 y560 x10_2).f1) == a0_1 && ((((rd_T23 y560 x10_2).f2).toList) == a0_2.toList))) = true := by simpa using c37))
   clear c37
   (first | rw [c37b0] | (simp only [i64_w, i32_w]; rw [c37b0]) | skip)
   have H' := Aside0.mk H
   clear H
   try go_wp2
   have n0_ := Aside0.mk (qy HO_6.out)
   have n1_ := Aside0.mk (qy HO_7.out)
   have n2_ := Aside0.mk (qy HO_8.out)
   have n3_ := Aside0.mk (qy HO_9.out)
   have n4_ := Aside0.mk (qy HO569.out)
   have n5_ := Aside0.mk (qy HO572.out)
   have n6_ := Aside0.mk (qb BK549.out)
   have n7_ := Aside0.mk (qb BK550.out)
   have n8_ := Aside0.mk (qe HB.out)
   clear HO_6
   clear HO_7
   clear HO_8
   clear HO_9
   clear HO569
   clear HO572
   clear BK549
   clear BK550
   clear HB
   have HO_6 := n0_
   have HO_7 := n1_
   have HO_8 := n2_
   have HO_9 := n3_
   have HO569 := n4_
   have HO572 := n5_
   have BK549 := n6_
   have BK550 := n7_
   have HB := n8_
   clear n0_ n1_ n2_ n3_ n4_ n5_ n6_ n7_ n8_
   have p573 : 0 ≤ (x10_2 : Int) := of_decide_eq_true (by first | (with_reducible assumption) | assumption)
   have q573 : x10_2 < (y560.length : Int) := of_decide_eq_true (by first | (with_reducible assumption) | assumption)
   obtain ⟨ad573, e573, hx573_0, hx573_1, hx573_2⟩ := at_T23 (Kd.R_reads' HO_8.out).2.2 x10_2 p573 q573
   obtain rfl : ad566 = ad573 := (by injection e573)
   replace p573 := eq_true p573
   replace q573 := eq_true q573
   refine start_ (n := 17) (S := fun w' => w'.cell? ⟨gb549, 0, none⟩ = some (.int .i64 a0_0) ∧ w'.cell? ⟨gb549, 1, none⟩ = some (.int .i64 a0_1) ∧ w'.cell? ⟨gb549, 2, none⟩ = some (.string a0_2) ∧ w'.cell? ⟨gb549, 3, none⟩ = some (.string a0_3) ∧ w'.cell? ⟨gb549, 4, none⟩ = some (.slice A0_4 l0_4.length c0_4) ∧ w'.cell? (ad566.add ((x10_2).toNat * 3)) = some (.int .i64 ((rd_T23 y560 x10_2).f0)) ∧ w'.cell? ⟨(ad566.add ((x10_2).toNat * 3)).block, (ad566.add ((x10_2).toNat * 3)).off + 1, none⟩ = some (.int .i64 ((rd_T23 y560 x10_2).f1)) ∧ w'.cell? ⟨(ad566.add ((x10_2).toNat * 3)).block, (ad566.add ((x10_2).toNat * 3)).off + 2, none⟩ = some (.string ((rd_T23 y560 x10_2).f2))) (ds := []) #[false, false, false, false, false, false, false, false, false, false, false, false, false, false, false, false, false] (by kernel_rfl) rfl rfl ⟨(qh BK549.out 0).trans rfl, (qh BK549.out 1).trans rfl, (qh BK549.out 2).trans rfl, (qh BK549.out 3).trans rfl, (qh BK549.out 4).trans rfl, hx573_0, hx573_1, hx573_2⟩ (fun hHeld => ?_); refine with_tabW hearsayref02_Unify.tab12 hearsayref02_Unify.bits12 (fun HT_ HW_ => ?_)
   generalize w36.drew = w38 at HO_6 HO_7 HO_8 HO_9 HO569 HO572 BK549 BK550 HB hx573_0 hx573_1 hx573_2 hHeld ⊢
   refine pure_ (i := 0) (N := some 51) (v := ?_) (a' := ?_) #[true, false, false, false, false, false, false, false, false, false, false, false, false, false, false, false, false] rfl rfl (any_of HT_.out (by kernel_rfl)) (fun _ _ _ h => h) (Or.inl ⟨by rfl, ?_⟩) ?_ ?_
   rotate_left
   · intro w'
     go_simp
     with_reducible rfl
   rotate_left
   · simp only [Act.put, List.setIfInBounds_toArray, List.set_cons_zero, List.set_cons_succ, i64_w, i32_w]
     rfl
   refine pure_ (i := 1) (N := some 52) (v := ?_) (a' := ?_) #[true, true, false, false, false, false, false, false, false, false, false, false, false, false, false, false, false] rfl rfl (any_of HT_.out (by kernel_rfl)) (fun _ _ _ h => h) (Or.inl ⟨by rfl, ?_⟩) ?_ ?_
   rotate_left
   · intro w'
     go_simp
     with_reducible rfl
   rotate_left
   · simp only [Act.put, List.setIfInBounds_toArray, List.set_cons_zero, List.set_cons_succ, i64_w, i32_w]
     rfl
   refine pure_ (i := 2) (N := some 53) (v := ?_) (a' := ?_) #[true, true, true, false, false, false, false, false, false, false, false, false, false, false, false, false, false] rfl rfl (any_of HT_.out (by kernel_rfl)) (fun _ _ _ h => h) (Or.inl ⟨by rfl, ?_⟩) ?_ ?_
   rotate_left
   · intro w'
     go_simp
     with_reducible rfl
   rotate_left
   · simp only [Act.put, List.setIfInBounds_toArray, List.set_cons_zero, List.set_cons_succ, i64_w, i32_w]
     rfl
   refine pure_ (i := 4) (N := some 55) (v := ?_) (a' := ?_) #[true, true, true, false, true, false, false, false, false, false, false, false, false, false, false, false, false] rfl rfl (any_of HT_.out (by kernel_rfl)) (fun _ _ _ h => h) (Or.inl ⟨by rfl, ?_⟩) ?_ ?_
   rotate_left
   · intro w'
     go_simp
     with_reducible rfl
   rotate_left
   · simp only [Act.put, List.setIfInBounds_toArray, List.set_cons_zero, List.set_cons_succ, i64_w, i32_w]
     rfl
   refine take_ (i := 3) (N := some 54) (v := ?_) (a' := ?_) #[true, true, true, true, true, false, false, false, false, false, false, false, false, false, false, false, false] rfl rfl (take_ofW HT_.out HW_.out (by kernel_rfl)) (fun _ _ _ h => h) (Or.inl ⟨by rfl, ?_⟩) hHeld ?_ ?_
   rotate_left
   · rintro w' ⟨s0, s1, s2, s3, s4, s5, s6, s7⟩
     go_simp
     with_reducible rfl
   rotate_left
   · simp only [Act.put, List.setIfInBounds_toArray, List.set_cons_zero, List.set_cons_succ, i64_w, i32_w]
     rfl
   refine take_ (i := 5) (N := some 56) (v := ?_) (a' := ?_) #[true, true, true, true, true, true, false, false, false, false, false, false, false, false, false, false, false] rfl rfl (take_ofW HT_.out HW_.out (by kernel_rfl)) (fun _ _ _ h => h) (Or.inl ⟨by rfl, ?_⟩) hHeld ?_ ?_
   rotate_left
   · rintro w' ⟨s0, s1, s2, s3, s4, s5, s6, s7⟩
     go_simp
     with_reducible rfl
   rotate_left
   · simp only [Act.put, List.setIfInBounds_toArray, List.set_cons_zero, List.set_cons_succ, i64_w, i32_w]
     rfl
   refine pure_ (i := 6) (N := some 57) (v := ?_) (a' := ?_) #[true, true, true, true, true, true, true, false, false, false, false, false, false, false, false, false, false] rfl rfl (any_of HT_.out (by kernel_rfl)) (fun _ _ _ h => h) (Or.inl ⟨by rfl, ?_⟩) ?_ ?_
   rotate_left
   · intro w'
     go_simp
     with_reducible rfl
   rotate_left
   · simp only [Act.put, List.setIfInBounds_toArray, List.set_cons_zero, List.set_cons_succ, i64_w, i32_w]
     rfl
   refine pure_ (i := 7) (N := some 58) (v := ?_) (a' := ?_) #[true, true, true, true, true, true, true, true, false, false, false, false, false, false, false, false, false] rfl rfl (any_of HT_.out (by kernel_rfl)) (fun _ _ _ h => h) (Or.inl ⟨by rfl, ?_⟩) ?_ ?_
   rotate_left
   · intro w'
     go_simp
     with_reducible rfl
   rotate_left
   · simp only [Act.put, List.setIfInBounds_toArray, List.set_cons_zero, List.set_cons_succ, i64_w, i32_w]
     rfl
   refine pure_ (i := 8) (N := some 59) (v := undef) (a' := ?_) #[true, true, true, true, true, true, true, true, true, false, false, false, false, false, false, false, false] rfl rfl (any_of HT_.out (by kernel_rfl)) (fun _ _ _ h => h) (Or.inr ⟨by rfl, rfl⟩) ?_ ?_
   rotate_left
   · simp only [Act.put, List.setIfInBounds_toArray, List.set_cons_zero, List.set_cons_succ, i64_w, i32_w]
     rfl
   refine pure_ (i := 9) (N := some 60) (v := undef) (a' := ?_) #[true, true, true, true, true, true, true, true, true, true, false, false, false, false, false, false, false] rfl rfl (any_of HT_.out (by kernel_rfl)) (fun _ _ _ h => h) (Or.inr ⟨by rfl, rfl⟩) ?_ ?_
   rotate_left
   · simp only [Act.put, List.setIfInBounds_toArray, List.set_cons_zero, List.set_cons_succ, i64_w, i32_w]
     rfl
   refine pure_ (i := 10) (N := some 61) (v := undef) (a' := ?_) #[true, true, true, true, true, true, true, true, true, true, true, false, false, false, false, false, false] rfl rfl (any_of HT_.out (by kernel_rfl)) (fun _ _ _ h => h) (Or.inr ⟨by rfl, rfl⟩) ?_ ?_
   rotate_left
   · simp only [Act.put, List.setIfInBounds_toArray, List.set_cons_zero, List.set_cons_succ, i64_w, i32_w]
     rfl
   refine pure_ (i := 11) (N := some 62) (v := undef) (a' := ?_) #[true, true, true, true, true, true, true, true, true, true, true, true, false, false, false, false, false] rfl rfl (any_of HT_.out (by kernel_rfl)) (fun _ _ _ h => h) (Or.inr ⟨by rfl, rfl⟩) ?_ ?_
   rotate_left
   · simp only [Act.put, List.setIfInBounds_toArray, List.set_cons_zero, List.set_cons_succ, i64_w, i32_w]
     rfl
   refine pure_ (i := 12) (N := some 63) (v := undef) (a' := ?_) #[true, true, true, true, true, true, true, true, true, true, true, true, true, false, false, false, false] rfl rfl (any_of HT_.out (by kernel_rfl)) (fun _ _ _ h => h) (Or.inr ⟨by rfl, rfl⟩) ?_ ?_
   rotate_left
   · simp only [Act.put, List.setIfInBounds_toArray, List.set_cons_zero, List.set_cons_succ, i64_w, i32_w]
     rfl
   refine pure_ (i := 13) (N := some 64) (v := undef) (a' := ?_) #[true, true, true, true, true, true, true, true, true, true, true, true, true, true, false, false, false] rfl rfl (any_of HT_.out (by kernel_rfl)) (fun _ _ _ h => h) (Or.inr ⟨by rfl, rfl⟩) ?_ ?_
   rotate_left
   · simp only [Act.put, List.setIfInBounds_toArray, List.set_cons_zero, List.set_cons_succ, i64_w, i32_w]
     rfl
   refine pure_ (i := 14) (N := some 65) (v := undef) (a' := ?_) #[true, true, true, true, true, true, true, true, true, true, true, true, true, true, true, false, false] rfl rfl (any_of HT_.out (by kernel_rfl)) (fun _ _ _ h => h) (Or.inr ⟨by rfl, rfl⟩) ?_ ?_
   rotate_left
   · simp only [Act.put, List.setIfInBounds_toArray, List.set_cons_zero, List.set_cons_succ, i64_w, i32_w]
     rfl
   refine pure_ (i := 15) (N := some 66) (v := ?_) (a' := ?_) #[true, true, true, true, true, true, true, true, true, true, true, true, true, true, true, true, false] rfl rfl (any_of HT_.out (by kernel_rfl)) (fun _ _ _ h => h) (Or.inl ⟨by rfl, ?_⟩) ?_ ?_
   rotate_left
   · intro w'
     go_simp
     with_reducible rfl
   rotate_left
   · simp only [Act.put, List.setIfInBounds_toArray, List.set_cons_zero, List.set_cons_succ, i64_w, i32_w]
     rfl
   refine pure_ (i := 16) (N := some 13) (v := ?_) (a' := ?_) #[true, true, true, true, true, true, true, true, true, true, true, true, true, true, true, true, true] rfl rfl (any_of HT_.out (by kernel_rfl)) (fun _ _ _ h => h) (Or.inl ⟨by rfl, ?_⟩) ?_ ?_
   rotate_left
   · intro w'
     go_simp
     with_reducible rfl
   rotate_left
   · simp only [Act.put, List.setIfInBounds_toArray, List.set_cons_zero, List.set_cons_succ, i64_w, i32_w]
     rfl
   refine done_ (done_of HT_.out (by kernel_rfl)) ?_
   try go_wp2
   go_meet
   exact ⟨_, (true), (by first | rfl | (simp; done) | (simp [*]; done)), H', ⟨by have := HJ2.out; have := HK2.out; first | omega | exact Nat.le_refl _⟩, ⟨by (with_reducible repeat (first | apply qz | apply qx | apply qy)); exact Kd.R_mono HO_6.out (fun _ hk => ⟨hk.1.1.1, ⟨hk.1.1.2, ⟨hk.1.2, hk.2⟩⟩⟩)⟩, ⟨by (with_reducible repeat (first | apply qz | apply qx | apply qy)); exact Kd.R_mono HO_7.out (fun _ hk => ⟨hk.1.1.1, ⟨hk.1.1.2, ⟨hk.1.2, hk.2⟩⟩⟩)⟩, ⟨by (with_reducible repeat (first | apply qz | apply qx | apply qy)); exact Kd.R_mono HO_8.out (fun _ hk => ⟨hk.1.1.1, ⟨hk.1.1.2, ⟨hk.1.2, hk.2⟩⟩⟩)⟩, ⟨by (with_reducible repeat (first | apply qz | apply qx | apply qy)); exact HO_9.out⟩, ⟨by (with_reducible repeat (first | apply qz | apply qx | apply qy)); exact Kd.R_mono HO569.out (fun _ hk => ⟨hk.1.1.1.2, ⟨hk.1.1.2, ⟨hk.1.2, hk.2⟩⟩⟩)⟩, ⟨by (with_reducible repeat (first | apply qz | apply qx | apply qy)); exact Kd.R_mono HO572.out (fun _ hk => ⟨hk.1.1.1.2, ⟨hk.1.1.2, ⟨hk.1.2, hk.2⟩⟩⟩)⟩, ⟨by (with_reducible repeat (first | refine qa ?_ _ | refine qb ?_ | refine qc ?_ _)); exact BK549.out⟩, ⟨by (with_reducible repeat (first | refine qa ?_ _ | refine qb ?_ | refine qc ?_ _)); exact BK550.out⟩, ⟨by repeat (first | (with_reducible first | exact HB.out | apply qf | apply qn | apply qe | refine qd ?_ GE549.out | refine qd ?_ GE550.out) | exact HB.out)⟩⟩
  rw [if_neg c37] at H
  have c37b0 : (((rd_T23 y560 x10_2).f0) == a0_0 && (((rd_T23 y560 x10_2).f1) == a0_1 && ((((rd_T23 y560 x10_2).f2).toList) == a0_2.toList))) = false := by simpa using c37
  (try (have c37b1 : decide (((rd_T23 y560 x10_2).f0) = a0_0 && (((rd_T23 y560 x10_2).f1) == a0_1 && ((((rd_T23 y560 x10_2).f2).toList) == a0_2.toList))) = false := by simpa using c37))
  (try (have c37b2 : (((rd_T23 y560 x10_2).f0) == a0_0 && (((rd_T23 y560 x10_2).f1) == a0_1 && ((((rd_T23 y560 x10_2).f2).toList) == a0_2.toList))) = false := by simpa using c37))
  (try (have c37b3 : ¬ (((rd_T23 y560 x10_2).f0) = a0_0 && (((rd_T23 y560 x10_2).f1) == a0_1 && ((((rd_T23 y560 x10_2).f2).toList) == a0_2.toList))) := by simpa using c37))
  clear c37
  (first | rw [c37b0] | (simp only [i64_w, i32_w]; rw [c37b0]) | skip)
  have H' := Aside0.mk H
  clear H
  try go_wp2
  have n0_ := Aside0.mk (qy HO_6.out)
  have n1_ := Aside0.mk (qy HO_7.out)
  have n2_ := Aside0.mk (qy HO_8.out)
  have n3_ := Aside0.mk (qy HO_9.out)
  have n4_ := Aside0.mk (qy HO569.out)
  have n5_ := Aside0.mk (qy HO572.out)
  have n6_ := Aside0.mk (qb BK549.out)
  have n7_ := Aside0.mk (qb BK550.out)
  have n8_ := Aside0.mk (qe HB.out)
  clear HO_6
  clear HO_7
  clear HO_8
  clear HO_9
  clear HO569
  clear HO572
  clear BK549
  clear BK550
  clear HB
  have HO_6 := n0_
  have HO_7 := n1_
  have HO_8 := n2_
  have HO_9 := n3_
  have HO569 := n4_
  have HO572 := n5_
  have BK549 := n6_
  have BK550 := n7_
  have HB := n8_
  clear n0_ n1_ n2_ n3_ n4_ n5_ n6_ n7_ n8_
  have p573 : 0 ≤ (x10_2 : Int) := of_decide_eq_true (by first | (with_reducible assumption) | assumption)
  have q573 : x10_2 < (y560.length : Int) := of_decide_eq_true (by first | (with_reducible assumption) | assumption)
  obtain ⟨ad573, e573, hx573_0, hx573_1, hx573_2⟩ := at_T23 (Kd.R_reads' HO_8.out).2.2 x10_2 p573 q573
  obtain rfl : ad566 = ad573 := (by injection e573)
  replace p573 := eq_true p573
  replace q573 := eq_true q573
  have p574 : 0 ≤ (x10_2 : Int) := of_decide_eq_true (by first | (with_reducible assumption) | assumption)
  have q574 : x10_2 < (y560.length : Int) := of_decide_eq_true (by first | (with_reducible assumption) | assumption)
  obtain ⟨ad574, e574, hx574_0, hx574_1, hx574_2⟩ := at_T23 (Kd.R_reads' HO_8.out).2.2 x10_2 p574 q574
  obtain rfl : ad566 = ad574 := (by injection e574)
  replace p574 := eq_true p574
  replace q574 := eq_true q574
  refine start_ (n := 17) (S := fun w' => w'.cell? ⟨gb549, 0, none⟩ = some (.int .i64 a0_0) ∧ w'.cell? ⟨gb549, 1, none⟩ = some (.int .i64 a0_1) ∧ w'.cell? ⟨gb549, 2, none⟩ = some (.string a0_2) ∧ w'.cell? ⟨gb549, 3, none⟩ = some (.string a0_3) ∧ w'.cell? ⟨gb549, 4, none⟩ = some (.slice A0_4 l0_4.length c0_4) ∧ w'.cell? ⟨gb550, 0, none⟩ = some (.int .i64 a1_0) ∧ w'.cell? ⟨gb550, 1, none⟩ = some (.int .i64 a1_1) ∧ w'.cell? ⟨gb550, 2, none⟩ = some (.string a1_2) ∧ w'.cell? ⟨gb550, 3, none⟩ = some (.string a1_3) ∧ w'.cell? ⟨gb550, 4, none⟩ = some (.slice A1_4 l1_4.length c1_4) ∧ w'.cell? (ad566.add ((x10_2).toNat * 3)) = some (.int .i64 ((rd_T23 y560 x10_2).f0)) ∧ w'.cell? ⟨(ad566.add ((x10_2).toNat * 3)).block, (ad566.add ((x10_2).toNat * 3)).off + 1, none⟩ = some (.int .i64 ((rd_T23 y560 x10_2).f1)) ∧ w'.cell? ⟨(ad566.add ((x10_2).toNat * 3)).block, (ad566.add ((x10_2).toNat * 3)).off + 2, none⟩ = some (.string ((rd_T23 y560 x10_2).f2)) ∧ w'.cell? (ad566.add ((x10_2).toNat * 3)) = some (.int .i64 ((rd_T23 y560 x10_2).f0)) ∧ w'.cell? ⟨(ad566.add ((x10_2).toNat * 3)).block, (ad566.add ((x10_2).toNat * 3)).off + 1, none⟩ = some (.int .i64 ((rd_T23 y560 x10_2).f1)) ∧ w'.cell? ⟨(ad566.add ((x10_2).toNat * 3)).block, (ad566.add ((x10_2).toNat * 3)).off + 2, none⟩ = some (.string ((rd_T23 y560 x10_2).f2))) (ds := []) #[false, false, false, false, false, false, false, false, false, false, false, false, false, false, false, false, false] (by kernel_rfl) rfl rfl ⟨(qh BK549.out 0).trans rfl, (qh BK549.out 1).trans rfl, (qh BK549.out 2).trans rfl, (qh BK549.out 3).trans rfl, (qh BK549.out 4).trans rfl, (qh BK550.out 0).trans rfl, (qh BK550.out 1).trans rfl, (qh BK550.out 2).trans rfl, (qh BK550.out 3).trans rfl, (qh BK550.out 4).trans rfl, hx573_0, hx573_1, hx573_2, hx574_0, hx574_1, hx574_2⟩ (fun hHeld => ?_); refine with_tabW hearsayref02_Unify.tab12 hearsayref02_Unify.bits12 (fun HT_ HW_ => ?_)
  generalize w36.drew = w39 at HO_6 HO_7 HO_8 HO_9 HO569 HO572 BK549 BK550 HB hx573_0 hx573_1 hx573_2 hx574_0 hx574_1 hx574_2 hHeld ⊢
  refine pure_ (i := 0) (N := some 51) (v := ?_) (a' := ?_) #[true, false, false, false, false, false, false, false, false, false, false, false, false, false, false, false, false] rfl rfl (any_of HT_.out (by kernel_rfl)) (fun _ _ _ h => h) (Or.inl ⟨by rfl, ?_⟩) ?_ ?_
  rotate_left
  · intro w'
    go_simp
    with_reducible rfl
  rotate_left
  · simp only [Act.put, List.setIfInBounds_toArray, List.set_cons_zero, List.set_cons_succ, i64_w, i32_w]
    rfl
  refine pure_ (i := 1) (N := some 52) (v := ?_) (a' := ?_) #[true, true, false, false, false, false, false, false, false, false, false, false, false, false, false, false, false] rfl rfl (any_of HT_.out (by kernel_rfl)) (fun _ _ _ h => h) (Or.inl ⟨by rfl, ?_⟩) ?_ ?_
  rotate_left
  · intro w'
    go_simp
    with_reducible rfl
  rotate_left
  · simp only [Act.put, List.setIfInBounds_toArray, List.set_cons_zero, List.set_cons_succ, i64_w, i32_w]
    rfl
  refine pure_ (i := 2) (N := some 53) (v := ?_) (a' := ?_) #[true, true, true, false, false, false, false, false, false, false, false, false, false, false, false, false, false] rfl rfl (any_of HT_.out (by kernel_rfl)) (fun _ _ _ h => h) (Or.inl ⟨by rfl, ?_⟩) ?_ ?_
  rotate_left
  · intro w'
    go_simp
    with_reducible rfl
  rotate_left
  · simp only [Act.put, List.setIfInBounds_toArray, List.set_cons_zero, List.set_cons_succ, i64_w, i32_w]
    rfl
  refine pure_ (i := 4) (N := some 55) (v := ?_) (a' := ?_) #[true, true, true, false, true, false, false, false, false, false, false, false, false, false, false, false, false] rfl rfl (any_of HT_.out (by kernel_rfl)) (fun _ _ _ h => h) (Or.inl ⟨by rfl, ?_⟩) ?_ ?_
  rotate_left
  · intro w'
    go_simp
    with_reducible rfl
  rotate_left
  · simp only [Act.put, List.setIfInBounds_toArray, List.set_cons_zero, List.set_cons_succ, i64_w, i32_w]
    rfl
  refine take_ (i := 3) (N := some 54) (v := ?_) (a' := ?_) #[true, true, true, true, true, false, false, false, false, false, false, false, false, false, false, false, false] rfl rfl (take_ofW HT_.out HW_.out (by kernel_rfl)) (fun _ _ _ h => h) (Or.inl ⟨by rfl, ?_⟩) hHeld ?_ ?_
  rotate_left
  · rintro w' ⟨s0, s1, s2, s3, s4, s5, s6, s7, s8, s9, s10, s11, s12, s13, s14, s15⟩
    go_simp
    with_reducible rfl
  rotate_left
  · simp only [Act.put, List.setIfInBounds_toArray, List.set_cons_zero, List.set_cons_succ, i64_w, i32_w]
    rfl
  refine take_ (i := 5) (N := some 56) (v := ?_) (a' := ?_) #[true, true, true, true, true, true, false, false, false, false, false, false, false, false, false, false, false] rfl rfl (take_ofW HT_.out HW_.out (by kernel_rfl)) (fun _ _ _ h => h) (Or.inl ⟨by rfl, ?_⟩) hHeld ?_ ?_
  rotate_left
  · rintro w' ⟨s0, s1, s2, s3, s4, s5, s6, s7, s8, s9, s10, s11, s12, s13, s14, s15⟩
    go_simp
    with_reducible rfl
  rotate_left
  · simp only [Act.put, List.setIfInBounds_toArray, List.set_cons_zero, List.set_cons_succ, i64_w, i32_w]
    rfl
  refine pure_ (i := 6) (N := some 57) (v := ?_) (a' := ?_) #[true, true, true, true, true, true, true, false, false, false, false, false, false, false, false, false, false] rfl rfl (any_of HT_.out (by kernel_rfl)) (fun _ _ _ h => h) (Or.inl ⟨by rfl, ?_⟩) ?_ ?_
  rotate_left
  · intro w'
    go_simp
    with_reducible rfl
  rotate_left
  · simp only [Act.put, List.setIfInBounds_toArray, List.set_cons_zero, List.set_cons_succ, i64_w, i32_w]
    rfl
  refine pure_ (i := 7) (N := some 58) (v := ?_) (a' := ?_) #[true, true, true, true, true, true, true, true, false, false, false, false, false, false, false, false, false] rfl rfl (any_of HT_.out (by kernel_rfl)) (fun _ _ _ h => h) (Or.inl ⟨by rfl, ?_⟩) ?_ ?_
  rotate_left
  · intro w'
    go_simp
    with_reducible rfl
  rotate_left
  · simp only [Act.put, List.setIfInBounds_toArray, List.set_cons_zero, List.set_cons_succ, i64_w, i32_w]
    rfl
  refine pure_ (i := 8) (N := some 59) (v := ?_) (a' := ?_) #[true, true, true, true, true, true, true, true, true, false, false, false, false, false, false, false, false] rfl rfl (any_of HT_.out (by kernel_rfl)) (fun _ _ _ h => h) (Or.inl ⟨by rfl, ?_⟩) ?_ ?_
  rotate_left
  · intro w'
    go_simp
    with_reducible rfl
  rotate_left
  · simp only [Act.put, List.setIfInBounds_toArray, List.set_cons_zero, List.set_cons_succ, i64_w, i32_w]
    rfl
  refine pure_ (i := 9) (N := some 60) (v := ?_) (a' := ?_) #[true, true, true, true, true, true, true, true, true, true, false, false, false, false, false, false, false] rfl rfl (any_of HT_.out (by kernel_rfl)) (fun _ _ _ h => h) (Or.inl ⟨by rfl, ?_⟩) ?_ ?_
  rotate_left
  · intro w'
    go_simp
    with_reducible rfl
  rotate_left
  · simp only [Act.put, List.setIfInBounds_toArray, List.set_cons_zero, List.set_cons_succ, i64_w, i32_w]
    rfl
  refine pure_ (i := 10) (N := some 61) (v := ?_) (a' := ?_) #[true, true, true, true, true, true, true, true, true, true, true, false, false, false, false, false, false] rfl rfl (any_of HT_.out (by kernel_rfl)) (fun _ _ _ h => h) (Or.inl ⟨by rfl, ?_⟩) ?_ ?_
  rotate_left
  · intro w'
    go_simp
    with_reducible rfl
  rotate_left
  · simp only [Act.put, List.setIfInBounds_toArray, List.set_cons_zero, List.set_cons_succ, i64_w, i32_w]
    rfl
  refine pure_ (i := 12) (N := some 63) (v := ?_) (a' := ?_) #[true, true, true, true, true, true, true, true, true, true, true, false, true, false, false, false, false] rfl rfl (any_of HT_.out (by kernel_rfl)) (fun _ _ _ h => h) (Or.inl ⟨by rfl, ?_⟩) ?_ ?_
  rotate_left
  · intro w'
    go_simp
    with_reducible rfl
  rotate_left
  · simp only [Act.put, List.setIfInBounds_toArray, List.set_cons_zero, List.set_cons_succ, i64_w, i32_w]
    rfl
  refine take_ (i := 11) (N := some 62) (v := ?_) (a' := ?_) #[true, true, true, true, true, true, true, true, true, true, true, true, true, false, false, false, false] rfl rfl (take_ofW HT_.out HW_.out (by kernel_rfl)) (fun _ _ _ h => h) (Or.inl ⟨by rfl, ?_⟩) hHeld ?_ ?_
  rotate_left
  · rintro w' ⟨s0, s1, s2, s3, s4, s5, s6, s7, s8, s9, s10, s11, s12, s13, s14, s15⟩
    go_simp
    with_reducible rfl
  rotate_left
  · simp only [Act.put, List.setIfInBounds_toArray, List.set_cons_zero, List.set_cons_succ, i64_w, i32_w]
    rfl
  refine take_ (i := 13) (N := some 64) (v := ?_) (a' := ?_) #[true, true, true, true, true, true, true, true, true, true, true, true, true, true, false, false, false] rfl rfl (take_ofW HT_.out HW_.out (by kernel_rfl)) (fun _ _ _ h => h) (Or.inl ⟨by rfl, ?_⟩) hHeld ?_ ?_
  rotate_left
  · rintro w' ⟨s0, s1, s2, s3, s4, s5, s6, s7, s8, s9, s10, s11, s12, s13, s14, s15⟩
    go_simp
    with_reducible rfl
  rotate_left
  · simp only [Act.put, List.setIfInBounds_toArray, List.set_cons_zero, List.set_cons_succ, i64_w, i32_w]
    rfl
  refine pure_ (i := 14) (N := some 65) (v := ?_) (a' := ?_) #[true, true, true, true, true, true, true, true, true, true, true, true, true, true, true, false, false] rfl rfl (any_of HT_.out (by kernel_rfl)) (fun _ _ _ h => h) (Or.inl ⟨by rfl, ?_⟩) ?_ ?_
  rotate_left
  · intro w'
    go_simp
    with_reducible rfl
  rotate_left
  · simp only [Act.put, List.setIfInBounds_toArray, List.set_cons_zero, List.set_cons_succ, i64_w, i32_w]
    rfl
  refine pure_ (i := 15) (N := some 66) (v := ?_) (a' := ?_) #[true, true, true, true, true, true, true, true, true, true, true, true, true, true, true, true, false] rfl rfl (any_of HT_.out (by kernel_rfl)) (fun _ _ _ h => h) (Or.inl ⟨by rfl, ?_⟩) ?_ ?_
  rotate_left
  · intro w'
    go_simp
    with_reducible rfl
  rotate_left
  · simp only [Act.put, List.setIfInBounds_toArray, List.set_cons_zero, List.set_cons_succ, i64_w, i32_w]
    rfl
  refine pure_ (i := 16) (N := some 13) (v := ?_) (a' := ?_) #[true, true, true, true, true, true, true, true, true, true, true, true, true, true, true, true, true] rfl rfl (any_of HT_.out (by kernel_rfl)) (fun _ _ _ h => h) (Or.inl ⟨by rfl, ?_⟩) ?_ ?_
  rotate_left
  · intro w'
    go_simp
    with_reducible rfl
  rotate_left
  · simp only [Act.put, List.setIfInBounds_toArray, List.set_cons_zero, List.set_cons_succ, i64_w, i32_w]
    rfl
  refine done_ (done_of HT_.out (by kernel_rfl)) ?_
  try go_wp2
  go_meet
  exact ⟨_, ((((rd_T23 y560 x10_2).f0) == a1_0 && (((rd_T23 y560 x10_2).f1) == a1_1 && ((((rd_T23 y560 x10_2).f2).toList) == a1_2.toList)))), (by first | rfl | (simp; done) | (simp [*]; done)), H', ⟨by have := HJ2.out; have := HK2.out; first | omega | exact Nat.le_refl _⟩, ⟨by (with_reducible repeat (first | apply qz | apply qx | apply qy)); exact Kd.R_mono HO_6.out (fun _ hk => ⟨hk.1.1.1, ⟨hk.1.1.2, ⟨hk.1.2, hk.2⟩⟩⟩)⟩, ⟨by (with_reducible repeat (first | apply qz | apply qx | apply qy)); exact Kd.R_mono HO_7.out (fun _ hk => ⟨hk.1.1.1, ⟨hk.1.1.2, ⟨hk.1.2, hk.2⟩⟩⟩)⟩, ⟨by (with_reducible repeat (first | apply qz | apply qx | apply qy)); exact Kd.R_mono HO_8.out (fun _ hk => ⟨hk.1.1.1, ⟨hk.1.1.2, ⟨hk.1.2, hk.2⟩⟩⟩)⟩, ⟨by (with_reducible repeat (first | apply qz | apply qx | apply qy)); exact HO_9.out⟩, ⟨by (with_reducible repeat (first | apply qz | apply qx | apply qy)); exact Kd.R_mono HO569.out (fun _ hk => ⟨hk.1.1.1.2, ⟨hk.1.1.2, ⟨hk.1.2, hk.2⟩⟩⟩)⟩, ⟨by (with_reducible repeat (first | apply qz | apply qx | apply qy)); exact Kd.R_mono HO572.out (fun _ hk => ⟨hk.1.1.1.2, ⟨hk.1.1.2, ⟨hk.1.2, hk.2⟩⟩⟩)⟩, ⟨by (with_reducible repeat (first | refine qa ?_ _ | refine qb ?_ | refine qc ?_ _)); exact BK549.out⟩, ⟨by (with_reducible repeat (first | refine qa ?_ _ | refine qb ?_ | refine qc ?_ _)); exact BK550.out⟩, ⟨by repeat (first | (with_reducible first | exact HB.out | apply qf | apply qn | apply qe | refine qd ?_ GE549.out | refine qd ?_ GE550.out) | exact HB.out)⟩⟩
 clear HC31
 obtain ⟨kq, x13_30, rfl, HA, HJ30, HO_6, HO_7, HO_8, HO_9, HO_11, HO_12, BK549, BK550, HB⟩ := hcut
 rcases kq with _ | kj30
 · exact absurd HA.out (by simp [hearsayref02_Unify.j2])
 have H := HA.out
 clear HA
 simp only [hearsayref02_Unify.j2] at H
 have HC40 := Aside0.mk H
 clear H
 go_upto_region 13 with (fail)
 go_cut [91] (fun v91 wc => ∃ (kq : Nat) (x91_39 : Bool), v91 = .bool x91_39 ∧ Aside0 (hearsayref02_Unify.j3 kq t551 t554 y560 x9_2 x10_2 t567 x91_39 a0_0 a0_1 a0_2 a0_3 l0_4 a1_0 a1_1 a1_2 a1_3 l1_4 = some (r1, r2)) ∧ Aside0 (kq ≤ kj30) ∧ Aside0 (Kd.R k23 23 wc w.heap.size (fun k_ => some k_ ≠ ((.slice Ao26 t554.length co26) : Value).ownBlock ∧ some k_ ≠ ((.slice (some ad566) y560.length co32) : Value).ownBlock ∧ some k_ ≠ ((.slice Ao35 t567.length co35) : Value).ownBlock) (.slice Ao33 t551.length co33) t551) ∧ Aside0 (Kd.R k23 23 wc w.heap.size (fun k_ => some k_ ≠ ((.slice Ao33 t551.length co33) : Value).ownBlock ∧ some k_ ≠ ((.slice (some ad566) y560.length co32) : Value).ownBlock ∧ some k_ ≠ ((.slice Ao35 t567.length co35) : Value).ownBlock) (.slice Ao26 t554.length co26) t554) ∧ Aside0 (Kd.R k23 23 wc w.heap.size (fun k_ => some k_ ≠ ((.slice Ao33 t551.length co33) : Value).ownBlock ∧ some k_ ≠ ((.slice Ao26 t554.length co26) : Value).ownBlock ∧ some k_ ≠ ((.slice Ao35 t567.length co35) : Value).ownBlock) (.slice (some ad566) y560.length co32) y560) ∧ Aside0 (Kd.R k44 44 wc w.heap.size (fun _ => True) u9 x9_2) ∧ Aside0 (Kd.R k23 23 wc w.heap.size (fun k_ => some k_ ≠ ((.slice Ao33 t551.length co33) : Value).ownBlock ∧ some k_ ≠ ((.slice Ao26 t554.length co26) : Value).ownBlock ∧ some k_ ≠ ((.slice (some ad566) y560.length co32) : Value).ownBlock) (.slice Ao35 t567.length co35) t567) ∧ Aside0 (wc.heap[gb549]? = some (.cells #[.int .i64 a0_0, .int .i64 a0_1, .string a0_2, .string a0_3, (.slice A0_4 l0_4.length c0_4)] 26 (0, 0))) ∧ Aside0 (wc.heap[gb550]? = some (.cells #[.int .i64 a1_0, .int .i64 a1_1, .string a1_2, .string a1_3, (.slice A1_4 l1_4.length c1_4)] 26 (0, 0))) ∧ Aside0 (Below w.heap.size w wc))
 case first =>
  have H := HC40.out
  clear HC40
  by_cases c41 : (t570.length : Int) > 1
  ·
   rw [if_pos c41] at H
   have c41b0 : decide (1 < (t570.length : Int)) = true := decide_eq_true c41
   have c41b1 : decide (1 < t570.length) = true := decide_eq_true (by omega)
   clear c41
   (first | rw [c41b0] | (simp only [i64_w, i32_w]; rw [c41b0]) | skip)
   have H' := Aside0.mk H
   clear H
   obtain ⟨Ao42, co42, eo42⟩ := Kd.R_slice HO_12.out
   subst eo42
   go_wp2
   go_meet
   exact ⟨_, (true), (by first | rfl | (simp; done) | (simp [*]; done)), H', ⟨by have := HJ2.out; have := HK2.out; have := HJ30.out; first | omega | exact Nat.le_refl _⟩, ⟨by (with_reducible repeat (first | apply qz | apply qx | apply qy)); exact Kd.R_mono HO_6.out (fun _ hk => ⟨hk.1, ⟨hk.2.1, hk.2.2.1⟩⟩)⟩, ⟨by (with_reducible repeat (first | apply qz | apply qx | apply qy)); exact Kd.R_mono HO_7.out (fun _ hk => ⟨hk.1, ⟨hk.2.1, hk.2.2.1⟩⟩)⟩, ⟨by (with_reducible repeat (first | apply qz | apply qx | apply qy)); exact Kd.R_mono HO_8.out (fun _ hk => ⟨hk.1, ⟨hk.2.1, hk.2.2.1⟩⟩)⟩, ⟨by (with_reducible repeat (first | apply qz | apply qx | apply qy)); exact HO_9.out⟩, ⟨by (with_reducible repeat (first | apply qz | apply qx | apply qy)); exact Kd.R_mono HO_11.out (fun _ hk => ⟨hk.1, ⟨hk.2.1, hk.2.2.1⟩⟩)⟩, ⟨by (with_reducible repeat (first | refine qa ?_ _ | refine qb ?_ | refine qc ?_ _)); exact BK549.out⟩, ⟨by (with_reducible repeat (first | refine qa ?_ _ | refine qb ?_ | refine qc ?_ _)); exact BK550.out⟩, ⟨by repeat (first | (with_reducible first | exact HB.out | apply qf | apply qn | apply qe | refine qd ?_ GE549.out | refine qd ?_ GE550.out) | exact HB.out)⟩⟩
  rw [if_neg c41] at H
  have c41b0 : decide (1 < (t570.length : Int)) = false := decide_eq_false c41
  have c41b1 : decide (1 < t570.length) = false := decide_eq_false (by omega)
  clear c41
  (first | rw [c41b0] | (simp only [i64_w, i32_w]; rw [c41b0]) | skip)
  by_cases c43 : x13_30 = true
  rotate_left
  ·
   replace c43 := Bool.eq_false_iff.mpr c43
   subst c43
   have H1 : (hearsayref02_Unify.j3 kj30 t551 t554 y560 x9_2 x10_2 t567 false a0_0 a0_1 a0_2 a0_3 l0_4 a1_0 a1_1 a1_2 a1_3 l1_4) = some (r1, r2) := by rw [if_neg (show ¬ (false = true) by decide)] at H; exact H
   clear H
   have H := H1
   clear H1
   have H' := Aside0.mk H
   clear H
   obtain ⟨Ao58, co58, eo58⟩ := Kd.R_slice HO_12.out
   subst eo58
   go_wp2
   go_meet
   exact ⟨_, (false), (by first | rfl | (simp; done) | (simp [*]; done)), H', ⟨by have := HJ2.out; have := HK2.out; have := HJ30.out; first | omega | exact Nat.le_refl _⟩, ⟨by (with_reducible repeat (first | apply qz | apply qx | apply qy)); exact Kd.R_mono HO_6.out (fun _ hk => ⟨hk.1, ⟨hk.2.1, hk.2.2.1⟩⟩)⟩, ⟨by (with_reducible repeat (first | apply qz | apply qx | apply qy)); exact Kd.R_mono HO_7.out (fun _ hk => ⟨hk.1, ⟨hk.2.1, hk.2.2.1⟩⟩)⟩, ⟨by (with_reducible repeat (first | apply qz | apply qx | apply qy)); exact Kd.R_mono HO_8.out (fun _ hk => ⟨hk.1, ⟨hk.2.1, hk.2.2.1⟩⟩)⟩, ⟨by (with_reducible repeat (first | apply qz | apply qx | apply qy)); exact HO_9.out⟩, ⟨by (with_reducible repeat (first | apply qz | apply qx | apply qy)); exact Kd.R_mono HO_11.out (fun _ hk => ⟨hk.1, ⟨hk.2.1, hk.2.2.1⟩⟩)⟩, ⟨by (with_reducible repeat (first | refine qa ?_ _ | refine qb ?_ | refine qc ?_ _)); exact BK549.out⟩, ⟨by (with_reducible repeat (first | refine qa ?_ _ | refine qb ?_ | refine qc ?_ _)); exact BK550.out⟩, ⟨by repeat (first | (with_reducible first | exact HB.out | apply qf | apply qn | apply qe | refine qd ?_ GE549.out | refine qd ?_ GE550.out) | exact HB.out)⟩⟩
  subst c43
  have H1 : (if 0 ≤ x10_2 then (if x10_2 < (y560.length : Int) then ((hearsayref02_Variable.f ((rd_T23 y560 x10_2).f0) ((rd_T23 y560 x10_2).f1) ((rd_T23 y560 x10_2).f2)).bind fun t576 => (if t576 = true then (if (t570.length : Int) = 1 then (if 0 < (t570.length : Int) then ((hearsayref02_Principal.f ((rd_T23 t570 0).f0) ((rd_T23 t570 0).f1) ((rd_T23 t570 0).f2)).bind fun t578 => (hearsayref02_Unify.j3 kj30 t551 t554 y560 x9_2 x10_2 t567 (!t578) a0_0 a0_1 a0_2 a0_3 l0_4 a1_0 a1_1 a1_2 a1_3 l1_4)) else (none)) else (hearsayref02_Unify.j3 kj30 t551 t554 y560 x9_2 x10_2 t567 false a0_0 a0_1 a0_2 a0_3 l0_4 a1_0 a1_1 a1_2 a1_3 l1_4)) else (hearsayref02_Unify.j3 kj30 t551 t554 y560 x9_2 x10_2 t567 false a0_0 a0_1 a0_2 a0_3 l0_4 a1_0 a1_1 a1_2 a1_3 l1_4))) else (none)) else (none)) = some (r1, r2) := by rw [if_pos rfl] at H; exact H
  clear H
  have H := H1
  clear H1
  by_cases c44 : 0 ≤ x10_2
  rotate_left
  · rw [if_neg c44] at H
    exact absurd H (by simp)
  rw [if_pos c44] at H
  have c44b0 : decide (0 ≤ x10_2) = true := decide_eq_true c44
  clear c44
  by_cases c45 : x10_2 < (y560.length : Int)
  rotate_left
  · rw [if_neg c45] at H
    exact absurd H (by simp)
  rw [if_pos c45] at H
  have c45b0 : decide (x10_2 < (y560.length : Int)) = true := decide_eq_true c45
  clear c45
  replace H := Option.bind_eq_some_iff.mp H
  obtain ⟨t576, A460, H⟩ := H
  replace H : (if t576 = true then (if (t570.length : Int) = 1 then (if 0 < (t570.length : Int) then ((hearsayref02_Principal.f ((rd_T23 t570 0).f0) ((rd_T23 t570 0).f1) ((rd_T23 t570 0).f2)).bind fun t578 => (hearsayref02_Unify.j3 kj30 t551 t554 y560 x9_2 x10_2 t567 (!t578) a0_0 a0_1 a0_2 a0_3 l0_4 a1_0 a1_1 a1_2 a1_3 l1_4)) else (none)) else (hearsayref02_Unify.j3 kj30 t551 t554 y560 x9_2 x10_2 t567 false a0_0 a0_1 a0_2 a0_3 l0_4 a1_0 a1_1 a1_2 a1_3 l1_4)) else (hearsayref02_Unify.j3 kj30 t551 t554 y560 x9_2 x10_2 t567 false a0_0 a0_1 a0_2 a0_3 l0_4 a1_0 a1_1 a1_2 a1_3 l1_4)) = some (r1, r2) := H
  have A46 := Aside0.mk A460
  clear A460
  by_cases c47 : t576 = true
  rotate_left
  ·
   replace c47 := Bool.eq_false_iff.mpr c47
   subst c47
   have H1 : (hearsayref02_Unify.j3 kj30 t551 t554 y560 x9_2 x10_2 t567 false a0_0 a0_1 a0_2 a0_3 l0_4 a1_0 a1_1 a1_2 a1_3 l1_4) = some (r1, r2) := by rw [if_neg (show ¬ (false = true) by decide)] at H; exact H
   clear H
   have H := H1
   clear H1
   have H' := Aside0.mk H
   clear H
   obtain ⟨Ao56, co56, eo56⟩ := Kd.R_slice HO_12.out
   subst eo56
   have p575 : 0 ≤ (x10_2 : Int) := of_decide_eq_true (by first | (with_reducible assumption) | assumption)
   have q575 : x10_2 < (y560.length : Int) := of_decide_eq_true (by first | (with_reducible assumption) | assumption)
   obtain ⟨ad575, e575, hx575_0, hx575_1, hx575_2⟩ := at_T23 (Kd.R_reads' HO_8.out).2.2 x10_2 p575 q575
   obtain rfl : ad566 = ad575 := (by injection e575)
   replace p575 := eq_true p575
   replace q575 := eq_true q575
   go_wp2_with (first | (go_at_call 52; (with_reducible refine (hearsayref02_Variable.calls ((rd_T23 y560 x10_2).f0) ((rd_T23 y560 x10_2).f1) ((rd_T23 y560 x10_2).f2) false _ A46.out).mono ?_); rintro e w57 ⟨rfl, hb⟩; have n0_ := Aside0.mk (Kd.R_below (by (with_reducible repeat (first | apply qz | apply qx | apply qy)); exact HO_6.out) hb); have n1_ := Aside0.mk (Kd.R_below (by (with_reducible repeat (first | apply qz | apply qx | apply qy)); exact HO_7.out) hb); have n2_ := Aside0.mk (Kd.R_below (by (with_reducible repeat (first | apply qz | apply qx | apply qy)); exact HO_8.out) hb); have n3_ := Aside0.mk (Kd.R_below (by (with_reducible repeat (first | apply qz | apply qx | apply qy)); exact HO_9.out) hb); have n4_ := Aside0.mk (Kd.R_below (by (with_reducible repeat (first | apply qz | apply qx | apply qy)); exact HO_11.out) hb); have n5_ := Aside0.mk (Kd.R_below (by (with_reducible repeat (first | apply qz | apply qx | apply qy)); exact HO_12.out) hb); have n6_ := Aside0.mk (qw (g := gb549) (o := .cells #[.int .i64 a0_0, .int .i64 a0_1, .string a0_2, .string a0_3, .slice A0_4 l0_4.length c0_4] 26 (0, 0)) (by (with_reducible repeat (first | refine qa ?_ _ | refine qb ?_ | refine qc ?_ _)); exact BK549.out) hb); have n7_ := Aside0.mk (qw (g := gb550) (o := .cells #[.int .i64 a1_0, .int .i64 a1_1, .string a1_2, .string a1_3, .slice A1_4 l1_4.length c1_4] 26 (0, 0)) (by (with_reducible repeat (first | refine qa ?_ _ | refine qb ?_ | refine qc ?_ _)); exact BK550.out) hb); have n8_ := Aside0.mk (below_step (by repeat (first | (with_reducible first | exact HB.out | apply qf | apply qn | apply qe | refine qd ?_ GE549.out | refine qd ?_ GE550.out) | exact HB.out)) hb); clear HO_6; clear HO_7; clear HO_8; clear HO_9; clear HO_11; clear HO_12; clear BK549; clear BK550; clear HB; have HO_6 := n0_; have HO_7 := n1_; have HO_8 := n2_; have HO_9 := n3_; have HO_11 := n4_; have HO_12 := n5_; have BK549 := n6_; have BK550 := n7_; have HB := n8_; clear n0_ n1_ n2_ n3_ n4_ n5_ n6_ n7_ n8_; (try clear hb); (try clear hb2); (try clear hk); (try clear hi)))
   go_meet
   exact ⟨_, (false), (by first | rfl | (simp; done) | (simp [*]; done)), H', ⟨by have := HJ2.out; have := HK2.out; have := HJ30.out; first | omega | exact Nat.le_refl _⟩, ⟨by (with_reducible repeat (first | apply qz | apply qx | apply qy)); exact Kd.R_mono HO_6.out (fun _ hk => ⟨hk.1, ⟨hk.2.1, hk.2.2.1⟩⟩)⟩, ⟨by (with_reducible repeat (first | apply qz | apply qx | apply qy)); exact Kd.R_mono HO_7.out (fun _ hk => ⟨hk.1, ⟨hk.2.1, hk.2.2.1⟩⟩)⟩, ⟨by (with_reducible repeat (first | apply qz | apply qx | apply qy)); exact Kd.R_mono HO_8.out (fun _ hk => ⟨hk.1, ⟨hk.2.1, hk.2.2.1⟩⟩)⟩, ⟨by (with_reducible repeat (first | apply qz | apply qx | apply qy)); exact HO_9.out⟩, ⟨by (with_reducible repeat (first | apply qz | apply qx | apply qy)); exact Kd.R_mono HO_11.out (fun _ hk => ⟨hk.1, ⟨hk.2.1, hk.2.2.1⟩⟩)⟩, ⟨by (with_reducible repeat (first | refine qa ?_ _ | refine qb ?_ | refine qc ?_ _)); exact BK549.out⟩, ⟨by (with_reducible repeat (first | refine qa ?_ _ | refine qb ?_ | refine qc ?_ _)); exact BK550.out⟩, ⟨by repeat (first | (with_reducible first | exact HB.out | apply qf | apply qn | apply qe | refine qd ?_ GE549.out | refine qd ?_ GE550.out) | exact HB.out)⟩⟩
  subst c47
  have H1 : (if (t570.length : Int) = 1 then (if 0 < (t570.length : Int) then ((hearsayref02_Principal.f ((rd_T23 t570 0).f0) ((rd_T23 t570 0).f1) ((rd_T23 t570 0).f2)).bind fun t578 => (hearsayref02_Unify.j3 kj30 t551 t554 y560 x9_2 x10_2 t567 (!t578) a0_0 a0_1 a0_2 a0_3 l0_4 a1_0 a1_1 a1_2 a1_3 l1_4)) else (none)) else (hearsayref02_Unify.j3 kj30 t551 t554 y560 x9_2 x10_2 t567 false a0_0 a0_1 a0_2 a0_3 l0_4 a1_0 a1_1 a1_2 a1_3 l1_4)) = some (r1, r2) := by rw [if_pos rfl] at H; exact H
  clear H
  have H := H1
  clear H1
  by_cases c48 : (t570.length : Int) = 1
  rotate_left
  ·
   rw [if_neg c48] at H
   have c48b0 : ((t570.length : Int) == 1) = false := beq_eq_false_iff_ne.mpr c48
   have c48b1 : ((t570.length : Int) != 1) = true := bne_iff_ne.mpr c48
   have H' := Aside0.mk H
   clear H
   obtain ⟨Ao54, co54, eo54⟩ := Kd.R_slice HO_12.out
   subst eo54
   have p575 : 0 ≤ (x10_2 : Int) := of_decide_eq_true (by first | (with_reducible assumption) | assumption)
   have q575 : x10_2 < (y560.length : Int) := of_decide_eq_true (by first | (with_reducible assumption) | assumption)
   obtain ⟨ad575, e575, hx575_0, hx575_1, hx575_2⟩ := at_T23 (Kd.R_reads' HO_8.out).2.2 x10_2 p575 q575
   obtain rfl : ad566 = ad575 := (by injection e575)
   replace p575 := eq_true p575
   replace q575 := eq_true q575
   go_wp2_with (first | (go_at_call 52; (with_reducible refine (hearsayref02_Variable.calls ((rd_T23 y560 x10_2).f0) ((rd_T23 y560 x10_2).f1) ((rd_T23 y560 x10_2).f2) true _ A46.out).mono ?_); rintro e w55 ⟨rfl, hb⟩; have n0_ := Aside0.mk (Kd.R_below (by (with_reducible repeat (first | apply qz | apply qx | apply qy)); exact HO_6.out) hb); have n1_ := Aside0.mk (Kd.R_below (by (with_reducible repeat (first | apply qz | apply qx | apply qy)); exact HO_7.out) hb); have n2_ := Aside0.mk (Kd.R_below (by (with_reducible repeat (first | apply qz | apply qx | apply qy)); exact HO_8.out) hb); have n3_ := Aside0.mk (Kd.R_below (by (with_reducible repeat (first | apply qz | apply qx | apply qy)); exact HO_9.out) hb); have n4_ := Aside0.mk (Kd.R_below (by (with_reducible repeat (first | apply qz | apply qx | apply qy)); exact HO_11.out) hb); have n5_ := Aside0.mk (Kd.R_below (by (with_reducible repeat (first | apply qz | apply qx | apply qy)); exact HO_12.out) hb); have n6_ := Aside0.mk (qw (g := gb549) (o := .cells #[.int .i64 a0_0, .int .i64 a0_1, .string a0_2, .string a0_3, .slice A0_4 l0_4.length c0_4] 26 (0, 0)) (by (with_reducible repeat (first | refine qa ?_ _ | refine qb ?_ | refine qc ?_ _)); exact BK549.out) hb); have n7_ := Aside0.mk (qw (g := gb550) (o := .cells #[.int .i64 a1_0, .int .i64 a1_1, .string a1_2, .string a1_3, .slice A1_4 l1_4.length c1_4] 26 (0, 0)) (by (with_reducible repeat (first | refine qa ?_ _ | refine qb ?_ | refine qc ?_ _)); exact BK550.out) hb); have n8_ := Aside0.mk (below_step (by repeat (first | (with_reducible first | exact HB.out | apply qf | apply qn | apply qe | refine qd ?_ GE549.out | refine qd ?_ GE550.out) | exact HB.out)) hb); clear HO_6; clear HO_7; clear HO_8; clear HO_9; clear HO_11; clear HO_12; clear BK549; clear BK550; clear HB; have HO_6 := n0_; have HO_7 := n1_; have HO_8 := n2_; have HO_9 := n3_; have HO_11 := n4_; have HO_12 := n5_; have BK549 := n6_; have BK550 := n7_; have HB := n8_; clear n0_ n1_ n2_ n3_ n4_ n5_ n6_ n7_ n8_; (try clear hb); (try clear hb2); (try clear hk); (try clear hi)))
   go_meet
   exact ⟨_, (false), (by first | rfl | (simp; done) | (simp [*]; done)), H', ⟨by have := HJ2.out; have := HK2.out; have := HJ30.out; first | omega | exact Nat.le_refl _⟩, ⟨by (with_reducible repeat (first | apply qz | apply qx | apply qy)); exact Kd.R_mono HO_6.out (fun _ hk => ⟨hk.1, ⟨hk.2.1, hk.2.2.1⟩⟩)⟩, ⟨by (with_reducible repeat (first | apply qz | apply qx | apply qy)); exact Kd.R_mono HO_7.out (fun _ hk => ⟨hk.1, ⟨hk.2.1, hk.2.2.1⟩⟩)⟩, ⟨by (with_reducible repeat (first | apply qz | apply qx | apply qy)); exact Kd.R_mono HO_8.out (fun _ hk => ⟨hk.1, ⟨hk.2.1, hk.2.2.1⟩⟩)⟩, ⟨by (with_reducible repeat (first | apply qz | apply qx | apply qy)); exact HO_9.out⟩, ⟨by (with_reducible repeat (first | apply qz | apply qx | apply qy)); exact Kd.R_mono HO_11.out (fun _ hk => ⟨hk.1, ⟨hk.2.1, hk.2.2.1⟩⟩)⟩, ⟨by (with_reducible repeat (first | refine qa ?_ _ | refine qb ?_ | refine qc ?_ _)); exact BK549.out⟩, ⟨by (with_reducible repeat (first | refine qa ?_ _ | refine qb ?_ | refine qc ?_ _)); exact BK550.out⟩, ⟨by repeat (first | (with_reducible first | exact HB.out | apply qf | apply qn | apply qe | refine qd ?_ GE549.out | refine qd ?_ GE550.out) | exact HB.out)⟩⟩
  rw [if_pos c48] at H
  have c48b0 : ((t570.length : Int) == 1) = true := beq_iff_eq.mpr c48
  have c48b1 : ((t570.length : Int) != 1) = false := bne_eq_false_iff_eq.mpr c48
  clear c48
  by_cases c49 : 0 < (t570.length : Int)
  rotate_left
  · rw [if_neg c49] at H
    exact absurd H (by simp)
  rw [if_pos c49] at H
  have c49b0 : decide (0 < (t570.length : Int)) = true := decide_eq_true c49
  have c49b1 : decide (0 < t570.length) = true := decide_eq_true (by omega)
  clear c49
  replace H := Option.bind_eq_some_iff.mp H
  obtain ⟨t578, A500, H⟩ := H
  replace H : (hearsayref02_Unify.j3 kj30 t551 t554 y560 x9_2 x10_2 t567 (!t578) a0_0 a0_1 a0_2 a0_3 l0_4 a1_0 a1_1 a1_2 a1_3 l1_4) = some (r1, r2) := H
  have A50 := Aside0.mk A500
  clear A500
  have H' := Aside0.mk H
  clear H
  obtain ⟨Ao51, co51, eo51⟩ := Kd.R_slice HO_12.out
  subst eo51
  have p575 : 0 ≤ (x10_2 : Int) := of_decide_eq_true (by first | (with_reducible assumption) | assumption)
  have q575 : x10_2 < (y560.length : Int) := of_decide_eq_true (by first | (with_reducible assumption) | assumption)
  obtain ⟨ad575, e575, hx575_0, hx575_1, hx575_2⟩ := at_T23 (Kd.R_reads' HO_8.out).2.2 x10_2 p575 q575
  obtain rfl : ad566 = ad575 := (by injection e575)
  replace p575 := eq_true p575
  replace q575 := eq_true q575
  go_wp2_with (first | (go_at_call 52; (with_reducible refine (hearsayref02_Variable.calls ((rd_T23 y560 x10_2).f0) ((rd_T23 y560 x10_2).f1) ((rd_T23 y560 x10_2).f2) true _ A46.out).mono ?_); rintro e w52 ⟨rfl, hb⟩; have n0_ := Aside0.mk (Kd.R_below (by (with_reducible repeat (first | apply qz | apply qx | apply qy)); exact HO_6.out) hb); have n1_ := Aside0.mk (Kd.R_below (by (with_reducible repeat (first | apply qz | apply qx | apply qy)); exact HO_7.out) hb); have n2_ := Aside0.mk (Kd.R_below (by (with_reducible repeat (first | apply qz | apply qx | apply qy)); exact HO_8.out) hb); have n3_ := Aside0.mk (Kd.R_below (by (with_reducible repeat (first | apply qz | apply qx | apply qy)); exact HO_9.out) hb); have n4_ := Aside0.mk (Kd.R_below (by (with_reducible repeat (first | apply qz | apply qx | apply qy)); exact HO_11.out) hb); have n5_ := Aside0.mk (Kd.R_below (by (with_reducible repeat (first | apply qz | apply qx | apply qy)); exact HO_12.out) hb); have n6_ := Aside0.mk (qw (g := gb549) (o := .cells #[.int .i64 a0_0, .int .i64 a0_1, .string a0_2, .string a0_3, .slice A0_4 l0_4.length c0_4] 26 (0, 0)) (by (with_reducible repeat (first | refine qa ?_ _ | refine qb ?_ | refine qc ?_ _)); exact BK549.out) hb); have n7_ := Aside0.mk (qw (g := gb550) (o := .cells #[.int .i64 a1_0, .int .i64 a1_1, .string a1_2, .string a1_3, .slice A1_4 l1_4.length c1_4] 26 (0, 0)) (by (with_reducible repeat (first | refine qa ?_ _ | refine qb ?_ | refine qc ?_ _)); exact BK550.out) hb); have n8_ := Aside0.mk (below_step (by repeat (first | (with_reducible first | exact HB.out | apply qf | apply qn | apply qe | refine qd ?_ GE549.out | refine qd ?_ GE550.out) | exact HB.out)) hb); clear HO_6; clear HO_7; clear HO_8; clear HO_9; clear HO_11; clear HO_12; clear BK549; clear BK550; clear HB; have HO_6 := n0_; have HO_7 := n1_; have HO_8 := n2_; have HO_9 := n3_; have HO_11 := n4_; have HO_12 := n5_; have BK549 := n6_; have BK550 := n7_; have HB := n8_; clear n0_ n1_ n2_ n3_ n4_ n5_ n6_ n7_ n8_; (try clear hb); (try clear hb2); (try clear hk); (try clear hi); have p577 : 0 ≤ (0 : Int) := (by omega); have q577 : 0 < (t570.length : Int) := of_decide_eq_true (by first | (with_reducible assumption) | assumption); obtain ⟨ad577, e577, hx577_0, hx577_1, hx577_2⟩ := at_T23 (Kd.R_reads' HO_12.out).2.2 0 p577 q577; cases e577; have qi577 : (0 < t570.length) = True := eq_true (by omega); (try rw [show ((0 : Int)).toNat = 0 from rfl] at hx577_0); (try rw [show 0 * 3 = 0 from rfl] at hx577_0); (try rw [Addr.add_zero'] at hx577_0); (try rw [show ((0 : Int)).toNat = 0 from rfl] at hx577_1); (try rw [show 0 * 3 = 0 from rfl] at hx577_1); (try rw [Addr.add_zero'] at hx577_1); (try rw [show ((0 : Int)).toNat = 0 from rfl] at hx577_2); (try rw [show 0 * 3 = 0 from rfl] at hx577_2); (try rw [Addr.add_zero'] at hx577_2); replace p577 := eq_true p577; replace q577 := eq_true q577) | (go_at_call 64; (with_reducible refine (hearsayref02_Principal.calls ((rd_T23 t570 0).f0) ((rd_T23 t570 0).f1) ((rd_T23 t570 0).f2) t578 _ A50.out).mono ?_); rintro e w53 ⟨rfl, hb⟩; have n0_ := Aside0.mk (Kd.R_below (by (with_reducible repeat (first | apply qz | apply qx | apply qy)); exact HO_6.out) hb); have n1_ := Aside0.mk (Kd.R_below (by (with_reducible repeat (first | apply qz | apply qx | apply qy)); exact HO_7.out) hb); have n2_ := Aside0.mk (Kd.R_below (by (with_reducible repeat (first | apply qz | apply qx | apply qy)); exact HO_8.out) hb); have n3_ := Aside0.mk (Kd.R_below (by (with_reducible repeat (first | apply qz | apply qx | apply qy)); exact HO_9.out) hb); have n4_ := Aside0.mk (Kd.R_below (by (with_reducible repeat (first | apply qz | apply qx | apply qy)); exact HO_11.out) hb); have n5_ := Aside0.mk (Kd.R_below (by (with_reducible repeat (first | apply qz | apply qx | apply qy)); exact HO_12.out) hb); have n6_ := Aside0.mk (qw (g := gb549) (o := .cells #[.int .i64 a0_0, .int .i64 a0_1, .string a0_2, .string a0_3, .slice A0_4 l0_4.length c0_4] 26 (0, 0)) (by (with_reducible repeat (first | refine qa ?_ _ | refine qb ?_ | refine qc ?_ _)); exact BK549.out) hb); have n7_ := Aside0.mk (qw (g := gb550) (o := .cells #[.int .i64 a1_0, .int .i64 a1_1, .string a1_2, .string a1_3, .slice A1_4 l1_4.length c1_4] 26 (0, 0)) (by (with_reducible repeat (first | refine qa ?_ _ | refine qb ?_ | refine qc ?_ _)); exact BK550.out) hb); have n8_ := Aside0.mk (below_step (by repeat (first | (with_reducible first | exact HB.out | apply qf | apply qn | apply qe | refine qd ?_ GE549.out | refine qd ?_ GE550.out) | exact HB.out)) hb); clear HO_6; clear HO_7; clear HO_8; clear HO_9; clear HO_11; clear HO_12; clear BK549; clear BK550; clear HB; have HO_6 := n0_; have HO_7 := n1_; have HO_8 := n2_; have HO_9 := n3_; have HO_11 := n4_; have HO_12 := n5_; have BK549 := n6_; have BK550 := n7_; have HB := n8_; clear n0_ n1_ n2_ n3_ n4_ n5_ n6_ n7_ n8_; (try clear hb); (try clear hb2); (try clear hk); (try clear hi)))
  go_meet
  exact ⟨_, (!t578), (by first | rfl | (simp; done) | (simp [*]; done)), H', ⟨by have := HJ2.out; have := HK2.out; have := HJ30.out; first | omega | exact Nat.le_refl _⟩, ⟨by (with_reducible repeat (first | apply qz | apply qx | apply qy)); exact Kd.R_mono HO_6.out (fun _ hk => ⟨hk.1, ⟨hk.2.1, hk.2.2.1⟩⟩)⟩, ⟨by (with_reducible repeat (first | apply qz | apply qx | apply qy)); exact Kd.R_mono HO_7.out (fun _ hk => ⟨hk.1, ⟨hk.2.1, hk.2.2.1⟩⟩)⟩, ⟨by (with_reducible repeat (first | apply qz | apply qx | apply qy)); exact Kd.R_mono HO_8.out (fun _ hk => ⟨hk.1, ⟨hk.2.1, hk.2.2.1⟩⟩)⟩, ⟨by (with_reducible repeat (first | apply qz | apply qx | apply qy)); exact HO_9.out⟩, ⟨by (with_reducible repeat (first | apply qz | apply qx | apply qy)); exact Kd.R_mono HO_11.out (fun _ hk => ⟨hk.1, ⟨hk.2.1, hk.2.2.1⟩⟩)⟩, ⟨by (with_reducible repeat (first | refine qa ?_ _ | refine qb ?_ | refine qc ?_ _)); exact BK549.out⟩, ⟨by (with_reducible repeat (first | refine qa ?_ _ | refine qb ?_ | refine qc ?_ _)); exact BK550.out⟩, ⟨by repeat (first | (with_reducible first | exact HB.out | apply qf | apply qn | apply qe | refine qd ?_ GE549.out | refine qd ?_ GE550.out) | exact HB.out)⟩⟩
 clear HC40
 obtain ⟨kq, x91_39, rfl, HA, HJ39, HO_6, HO_7, HO_8, HO_9, HO_11, BK549, BK550, HB⟩ := hcut
 rcases kq with _ | kj39
 · exact absurd HA.out (by simp [hearsayref02_Unify.j3])
 have H := HA.out
 clear HA
 simp only [hearsayref02_Unify.j3] at H
 by_cases c59 : x91_39 = true
 ·
  subst c59
  have H1 : (some (([] : List (S44)), false)) = some (r1, r2) := by rw [if_pos rfl] at H; exact H
  clear H
  have H := H1
  clear H1
  simp only [Option.some.injEq, Prod.mk.injEq] at H
  obtain ⟨rfl, rfl⟩ := H
  go_wp2
  go_ret2
  exact ⟨_, by first | rfl | (simp [errW_none, errW_some] <;> rfl) | (simp [errW_none, errW_some, bne, show ∀ l_ : List UInt8, (l_ == []) = l_.isEmpty from fun l_ => by cases l_ <;> rfl]; done) | (simp [*, errW_none, errW_some] <;> rfl), by first | exact Kd.R_nil _ _ _ _ _ | exact Kd.N_nil _ _ _ _ _ | exact Kd.V_nil _ _ _ _ _ | exact Kd.Q_nil _ _ _ _ _ | exact Kd.S_nil _ _ _ _ _, by repeat (first | (with_reducible first | exact HB.out | apply qf | apply qn | apply qe | refine qd ?_ GE549.out | refine qd ?_ GE550.out) | exact HB.out)⟩
 replace c59 := Bool.eq_false_iff.mpr c59
 subst c59
 have H1 : (if 0 ≤ x10_2 then (if x10_2 < (y560.length : Int) then ((hearsayref02_Variable.f ((rd_T23 y560 x10_2).f0) ((rd_T23 y560 x10_2).f1) ((rd_T23 y560 x10_2).f2)).bind fun t580 => (if t580 = true then ((hearsayref02_stands.f kj39 t567).bind fun bt581 => (if (!(bt581.1 == ((rd_T23 y560 x10_2).f0)) || (!(bt581.2.1 == ((rd_T23 y560 x10_2).f1)) || (!(bt581.2.2.toList == (((rd_T23 y560 x10_2).f2).toList))))) = true then ((hearsayref02_stands.f kj39 t567).bind fun bt586 => (if x9_2.length < 3518437208883 then (hearsayref02_Unify.l0 kj39 t551 t554 y560 (x9_2 ++ [(⟨(rd_T23 y560 x10_2).f1, (⟨bt586.1, bt586.2.1, bt586.2.2⟩ : S23)⟩ : S44)]) (wrap64 (x10_2 + 1)) a0_0 a0_1 a0_2 a0_3 l0_4 a1_0 a1_1 a1_2 a1_3 l1_4) else (none))) else (hearsayref02_Unify.l0 kj39 t551 t554 y560 x9_2 (wrap64 (x10_2 + 1)) a0_0 a0_1 a0_2 a0_3 l0_4 a1_0 a1_1 a1_2 a1_3 l1_4))) else (hearsayref02_Unify.l0 kj39 t551 t554 y560 x9_2 (wrap64 (x10_2 + 1)) a0_0 a0_1 a0_2 a0_3 l0_4 a1_0 a1_1 a1_2 a1_3 l1_4))) else (none)) else (none)) = some (r1, r2) := by rw [if_neg (show ¬ (false = true) by decide)] at H; exact H
 clear H
 have H := H1
 clear H1
 by_cases c60 : 0 ≤ x10_2
 rotate_left
 · rw [if_neg c60] at H
   exact absurd H (by simp)
 rw [if_pos c60] at H
 have c60b0 : decide (0 ≤ x10_2) = true := decide_eq_true c60
 clear c60
 by_cases c61 : x10_2 < (y560.length : Int)
 rotate_left
 · rw [if_neg c61] at H
   exact absurd H (by simp)
 rw [if_pos c61] at H
 have c61b0 : decide (x10_2 < (y560.length : Int)) = true := decide_eq_true c61
 clear c61
 replace H := Option.bind_eq_some_iff.mp H
 obtain ⟨t580, A620, H⟩ := H
 replace H : (if t580 = true then ((hearsayref02_stands.f kj39 t567).bind fun bt581 => (if (!(bt581.1 == ((rd_T23 y560 x10_2).f0)) || (!(bt581.2.1 == ((rd_T23 y560 x10_2).f1)) || (!(bt581.2.2.toList == (((rd_T23 y560 x10_2).f2).toList))))) = true then ((hearsayref02_stands.f kj39 t567).bind fun bt586 => (if x9_2.length < 3518437208883 then (hearsayref02_Unify.l0 kj39 t551 t554 y560 (x9_2 ++ [(⟨(rd_T23 y560 x10_2).f1, (⟨bt586.1, bt586.2.1, bt586.2.2⟩ : S23)⟩ : S44)]) (wrap64 (x10_2 + 1)) a0_0 a0_1 a0_2 a0_3 l0_4 a1_0 a1_1 a1_2 a1_3 l1_4) else (none))) else (hearsayref02_Unify.l0 kj39 t551 t554 y560 x9_2 (wrap64 (x10_2 + 1)) a0_0 a0_1 a0_2 a0_3 l0_4 a1_0 a1_1 a1_2 a1_3 l1_4))) else (hearsayref02_Unify.l0 kj39 t551 t554 y560 x9_2 (wrap64 (x10_2 + 1)) a0_0 a0_1 a0_2 a0_3 l0_4 a1_0 a1_1 a1_2 a1_3 l1_4)) = some (r1, r2) := H
 have A62 := Aside0.mk A620
 clear A620
 by_cases c63 : t580 = true
 rotate_left
 ·
  replace c63 := Bool.eq_false_iff.mpr c63
  subst c63
  have H1 : (hearsayref02_Unify.l0 kj39 t551 t554 y560 x9_2 (wrap64 (x10_2 + 1)) a0_0 a0_1 a0_2 a0_3 l0_4 a1_0 a1_1 a1_2 a1_3 l1_4) = some (r1, r2) := by rw [if_neg (show ¬ (false = true) by decide)] at H; exact H
  clear H
  have H := H1
  clear H1
  have H' := Aside0.mk H
  clear H
  try go_wp2
  have n0_ := Aside0.mk (qy HO_6.out)
  have n1_ := Aside0.mk (qy HO_7.out)
  have n2_ := Aside0.mk (qy HO_8.out)
  have n3_ := Aside0.mk (qy HO_9.out)
  have n4_ := Aside0.mk (qy HO_11.out)
  have n5_ := Aside0.mk (qb BK549.out)
  have n6_ := Aside0.mk (qb BK550.out)
  have n7_ := Aside0.mk (qe HB.out)
  clear HO_6
  clear HO_7
  clear HO_8
  clear HO_9
  clear HO_11
  clear BK549
  clear BK550
  clear HB
  have HO_6 := n0_
  have HO_7 := n1_
  have HO_8 := n2_
  have HO_9 := n3_
  have HO_11 := n4_
  have BK549 := n5_
  have BK550 := n6_
  have HB := n7_
  clear n0_ n1_ n2_ n3_ n4_ n5_ n6_ n7_
  have p579 : 0 ≤ (x10_2 : Int) := of_decide_eq_true (by first | (with_reducible assumption) | assumption)
  have q579 : x10_2 < (y560.length : Int) := of_decide_eq_true (by first | (with_reducible assumption) | assumption)
  obtain ⟨ad579, e579, hx579_0, hx579_1, hx579_2⟩ := at_T23 (Kd.R_reads' HO_8.out).2.2 x10_2 p579 q579
  obtain rfl : ad566 = ad579 := (by injection e579)
  replace p579 := eq_true p579
  replace q579 := eq_true q579
  refine start_ (n := 14) (S := fun w' => w'.cell? (ad566.add ((x10_2).toNat * 3)) = some (.int .i64 ((rd_T23 y560 x10_2).f0)) ∧ w'.cell? ⟨(ad566.add ((x10_2).toNat * 3)).block, (ad566.add ((x10_2).toNat * 3)).off + 1, none⟩ = some (.int .i64 ((rd_T23 y560 x10_2).f1)) ∧ w'.cell? ⟨(ad566.add ((x10_2).toNat * 3)).block, (ad566.add ((x10_2).toNat * 3)).off + 2, none⟩ = some (.string ((rd_T23 y560 x10_2).f2))) (ds := []) #[false, false, false, false, false, false, false, false, false, false, false, false, false, false] (by kernel_rfl) rfl rfl ⟨hx579_0, hx579_1, hx579_2⟩ (fun hHeld => ?_); refine with_tabW hearsayref02_Unify.tab15 hearsayref02_Unify.bits15 (fun HT_ HW_ => ?_)
  generalize wc.drew = w77 at HO_6 HO_7 HO_8 HO_9 HO_11 BK549 BK550 HB hx579_0 hx579_1 hx579_2 hHeld ⊢
  refine pure_ (i := 0) (N := some 92) (v := ?_) (a' := ?_) #[true, false, false, false, false, false, false, false, false, false, false, false, false, false] rfl rfl (any_of HT_.out (by kernel_rfl)) (fun _ _ _ h => h) (Or.inl ⟨by rfl, ?_⟩) ?_ ?_
  rotate_left
  · intro w'
    go_simp
    with_reducible rfl
  rotate_left
  · simp only [Act.put, List.setIfInBounds_toArray, List.set_cons_zero, List.set_cons_succ, i64_w, i32_w]
    rfl
  refine pure_ (i := 1) (N := some 93) (v := ?_) (a' := ?_) #[true, true, false, false, false, false, false, false, false, false, false, false, false, false] rfl rfl (any_of HT_.out (by kernel_rfl)) (fun _ _ _ h => h) (Or.inl ⟨by rfl, ?_⟩) ?_ ?_
  rotate_left
  · intro w'
    go_simp
    with_reducible rfl
  rotate_left
  · simp only [Act.put, List.setIfInBounds_toArray, List.set_cons_zero, List.set_cons_succ, i64_w, i32_w]
    rfl
  refine pure_ (i := 2) (N := some 94) (v := ?_) (a' := ?_) #[true, true, true, false, false, false, false, false, false, false, false, false, false, false] rfl rfl (any_of HT_.out (by kernel_rfl)) (fun _ _ _ h => h) (Or.inl ⟨by rfl, ?_⟩) ?_ ?_
  rotate_left
  · intro w'
    go_simp
    with_reducible rfl
  rotate_left
  · simp only [Act.put, List.setIfInBounds_toArray, List.set_cons_zero, List.set_cons_succ, i64_w, i32_w]
    rfl
  refine take_ (i := 3) (N := some 95) (v := ?_) (a' := ?_) #[true, true, true, true, false, false, false, false, false, false, false, false, false, false] rfl rfl (take_ofW HT_.out HW_.out (by kernel_rfl)) (fun _ _ _ h => h) (Or.inl ⟨by rfl, ?_⟩) hHeld ?_ ?_
  rotate_left
  · rintro w' ⟨s0, s1, s2⟩
    go_simp
    with_reducible rfl
  rotate_left
  · simp only [Act.put, List.setIfInBounds_toArray, List.set_cons_zero, List.set_cons_succ, i64_w, i32_w]
    rfl
  refine one_ (i := 4) (N := some 96) #[true, true, true, true, true, false, false, false, false, false, false, false, false, false] rfl rfl (one_of HT_.out (by kernel_rfl)) (by decide) (fun K hK => ?_)
  refine goes_ Tryd.func52 (by kernel_rfl) rfl #[.agg #[.int .i64 ((rd_T23 y560 x10_2).f0), .int .i64 ((rd_T23 y560 x10_2).f1), .string ((rd_T23 y560 x10_2).f2)]] (by rfl) rfl rfl (by (try simp only [List.map_toArray, List.map_cons, List.map_nil]); first | done | rfl | (simp only [List.length_drop, List.length_take]; rfl)) ?_
  with_reducible refine (hearsayref02_Variable.calls ((rd_T23 y560 x10_2).f0) ((rd_T23 y560 x10_2).f1) ((rd_T23 y560 x10_2).f2) false _ A62.out).mono ?_
  rintro e w78 ⟨rfl, hb⟩
  have HS0_ := (hb.cell (ql _ _ (hHeld.1))).trans (hHeld.1)
  have HS1_ := (hb.cell (ql _ _ (hHeld.2.1))).trans (hHeld.2.1)
  have HS2_ := (hb.cell (ql _ _ (hHeld.2.2))).trans (hHeld.2.2)
  refine ⟨_, rfl, ?_⟩
  have n0_ := Aside0.mk (Kd.R_below (by (with_reducible repeat (first | apply qz | apply qx | apply qy)); exact HO_6.out) hb)
  have n1_ := Aside0.mk (Kd.R_below (by (with_reducible repeat (first | apply qz | apply qx | apply qy)); exact HO_7.out) hb)
  have n2_ := Aside0.mk (Kd.R_below (by (with_reducible repeat (first | apply qz | apply qx | apply qy)); exact HO_8.out) hb)
  have n3_ := Aside0.mk (Kd.R_below (by (with_reducible repeat (first | apply qz | apply qx | apply qy)); exact HO_9.out) hb)
  have n4_ := Aside0.mk (Kd.R_below (by (with_reducible repeat (first | apply qz | apply qx | apply qy)); exact HO_11.out) hb)
  have n5_ := Aside0.mk (qw (g := gb549) (o := .cells #[.int .i64 a0_0, .int .i64 a0_1, .string a0_2, .string a0_3, .slice A0_4 l0_4.length c0_4] 26 (0, 0)) (by (with_reducible repeat (first | refine qa ?_ _ | refine qb ?_ | refine qc ?_ _)); exact BK549.out) hb)
  have n6_ := Aside0.mk (qw (g := gb550) (o := .cells #[.int .i64 a1_0, .int .i64 a1_1, .string a1_2, .string a1_3, .slice A1_4 l1_4.length c1_4] 26 (0, 0)) (by (with_reducible repeat (first | refine qa ?_ _ | refine qb ?_ | refine qc ?_ _)); exact BK550.out) hb)
  have n7_ := Aside0.mk (below_step (by repeat (first | (with_reducible first | exact HB.out | apply qf | apply qn | apply qe | refine qd ?_ GE549.out | refine qd ?_ GE550.out) | exact HB.out)) hb)
  clear HO_6
  clear HO_7
  clear HO_8
  clear HO_9
  clear HO_11
  clear BK549
  clear BK550
  clear HB
  have HO_6 := n0_
  have HO_7 := n1_
  have HO_8 := n2_
  have HO_9 := n3_
  have HO_11 := n4_
  have BK549 := n5_
  have BK550 := n6_
  have HB := n7_
  clear n0_ n1_ n2_ n3_ n4_ n5_ n6_ n7_
  (try clear hb)
  (try clear hb2)
  (try clear hk)
  (try clear hi)
  refine hK.out _ _ ⟨HS0_, HS1_, HS2_⟩ (fun hHeld => ?_)
  clear hK K
  refine norm_ (a' := ?_) ?_ ?_
  rotate_left
  · show Act.put _ (some 96) _ = _
    simp only [Act.put, List.setIfInBounds_toArray, List.set_cons_zero, List.set_cons_succ, i64_w, i32_w]
    rfl
  refine pure_ (i := 5) (N := some 97) (v := ?_) (a' := ?_) #[true, true, true, true, true, true, false, false, false, false, false, false, false, false] rfl rfl (any_of HT_.out (by kernel_rfl)) (fun _ _ _ h => h) (Or.inl ⟨by rfl, ?_⟩) ?_ ?_
  rotate_left
  · intro w'
    go_simp
    with_reducible rfl
  rotate_left
  · simp only [Act.put, List.setIfInBounds_toArray, List.set_cons_zero, List.set_cons_succ, i64_w, i32_w]
    rfl
  refine pure_ (i := 6) (N := some 98) (v := undef) (a' := ?_) #[true, true, true, true, true, true, true, false, false, false, false, false, false, false] rfl rfl (any_of HT_.out (by kernel_rfl)) (fun _ _ _ h => h) (Or.inr ⟨by rfl, rfl⟩) ?_ ?_
  rotate_left
  · simp only [Act.put, List.setIfInBounds_toArray, List.set_cons_zero, List.set_cons_succ, i64_w, i32_w]
    rfl
  refine pure_ (i := 7) (N := some 99) (v := undef) (a' := ?_) #[true, true, true, true, true, true, true, true, false, false, false, false, false, false] rfl rfl (any_of HT_.out (by kernel_rfl)) (fun _ _ _ h => h) (Or.inr ⟨by rfl, rfl⟩) ?_ ?_
  rotate_left
  · simp only [Act.put, List.setIfInBounds_toArray, List.set_cons_zero, List.set_cons_succ, i64_w, i32_w]
    rfl
  refine pure_ (i := 8) (N := some 100) (v := undef) (a' := ?_) #[true, true, true, true, true, true, true, true, true, false, false, false, false, false] rfl rfl (any_of HT_.out (by kernel_rfl)) (fun _ _ _ h => h) (Or.inr ⟨by rfl, rfl⟩) ?_ ?_
  rotate_left
  · simp only [Act.put, List.setIfInBounds_toArray, List.set_cons_zero, List.set_cons_succ, i64_w, i32_w]
    rfl
  refine pure_ (i := 9) (N := some 101) (v := undef) (a' := ?_) #[true, true, true, true, true, true, true, true, true, true, false, false, false, false] rfl rfl (any_of HT_.out (by kernel_rfl)) (fun _ _ _ h => h) (Or.inr ⟨by rfl, rfl⟩) ?_ ?_
  rotate_left
  · simp only [Act.put, List.setIfInBounds_toArray, List.set_cons_zero, List.set_cons_succ, i64_w, i32_w]
    rfl
  refine pure_ (i := 10) (N := some 102) (v := undef) (a' := ?_) #[true, true, true, true, true, true, true, true, true, true, true, false, false, false] rfl rfl (any_of HT_.out (by kernel_rfl)) (fun _ _ _ h => h) (Or.inr ⟨by rfl, rfl⟩) ?_ ?_
  rotate_left
  · simp only [Act.put, List.setIfInBounds_toArray, List.set_cons_zero, List.set_cons_succ, i64_w, i32_w]
    rfl
  refine pure_ (i := 11) (N := some 103) (v := undef) (a' := ?_) #[true, true, true, true, true, true, true, true, true, true, true, true, false, false] rfl rfl (any_of HT_.out (by kernel_rfl)) (fun _ _ _ h => h) (Or.inr ⟨by rfl, rfl⟩) ?_ ?_
  rotate_left
  · simp only [Act.put, List.setIfInBounds_toArray, List.set_cons_zero, List.set_cons_succ, i64_w, i32_w]
    rfl
  refine pure_ (i := 12) (N := some 104) (v := undef) (a' := ?_) #[true, true, true, true, true, true, true, true, true, true, true, true, true, false] rfl rfl (any_of HT_.out (by kernel_rfl)) (fun _ _ _ h => h) (Or.inr ⟨by rfl, rfl⟩) ?_ ?_
  rotate_left
  · simp only [Act.put, List.setIfInBounds_toArray, List.set_cons_zero, List.set_cons_succ, i64_w, i32_w]
    rfl
  refine pure_ (i := 13) (N := some 105) (v := ?_) (a' := ?_) #[true, true, true, true, true, true, true, true, true, true, true, true, true, true] rfl rfl (any_of HT_.out (by kernel_rfl)) (fun _ _ _ h => h) (Or.inl ⟨by rfl, ?_⟩) ?_ ?_
  rotate_left
  · intro w'
    go_simp
    with_reducible rfl
  rotate_left
  · simp only [Act.put, List.setIfInBounds_toArray, List.set_cons_zero, List.set_cons_succ, i64_w, i32_w]
    rfl
  refine done_ (done_of HT_.out (by kernel_rfl)) ?_
  try go_wp2
  go_roundg kj39
  case measure => have := HJ2.out; have := HK2.out; have := HJ30.out; have := HJ39.out; omega
  exact ⟨(x9_2), (wrap64 (x10_2 + 1)), (by first | rfl | (simp; done) | (simp [*]; done)), H', ⟨by have := HJ2.out; have := HK2.out; have := HJ30.out; have := HJ39.out; omega⟩, ⟨by (with_reducible repeat (first | apply qz | apply qx | apply qy)); exact Kd.R_mono HO_6.out (fun _ hk => ⟨hk.1, hk.2.1⟩)⟩, ⟨by (with_reducible repeat (first | apply qz | apply qx | apply qy)); exact Kd.R_mono HO_7.out (fun _ hk => ⟨hk.1, hk.2.1⟩)⟩, ⟨by (with_reducible repeat (first | apply qz | apply qx | apply qy)); exact Kd.R_mono HO_8.out (fun _ hk => ⟨hk.1, hk.2.1⟩)⟩, ⟨by (with_reducible repeat (first | apply qz | apply qx | apply qy)); exact HO_9.out⟩, ⟨by (with_reducible repeat (first | refine qa ?_ _ | refine qb ?_ | refine qc ?_ _)); exact BK549.out⟩, ⟨by (with_reducible repeat (first | refine qa ?_ _ | refine qb ?_ | refine qc ?_ _)); exact BK550.out⟩, ⟨by repeat (first | (with_reducible first | exact HB.out | apply qf | apply qn | apply qe | refine qd ?_ GE549.out | refine qd ?_ GE550.out) | exact HB.out)⟩⟩
 subst c63
 have H1 : ((hearsayref02_stands.f kj39 t567).bind fun bt581 => (if (!(bt581.1 == ((rd_T23 y560 x10_2).f0)) || (!(bt581.2.1 == ((rd_T23 y560 x10_2).f1)) || (!(bt581.2.2.toList == (((rd_T23 y560 x10_2).f2).toList))))) = true then ((hearsayref02_stands.f kj39 t567).bind fun bt586 => (if x9_2.length < 3518437208883 then (hearsayref02_Unify.l0 kj39 t551 t554 y560 (x9_2 ++ [(⟨(rd_T23 y560 x10_2).f1, (⟨bt586.1, bt586.2.1, bt586.2.2⟩ : S23)⟩ : S44)]) (wrap64 (x10_2 + 1)) a0_0 a0_1 a0_2 a0_3 l0_4 a1_0 a1_1 a1_2 a1_3 l1_4) else (none))) else (hearsayref02_Unify.l0 kj39 t551 t554 y560 x9_2 (wrap64 (x10_2 + 1)) a0_0 a0_1 a0_2 a0_3 l0_4 a1_0 a1_1 a1_2 a1_3 l1_4))) = some (r1, r2) := by rw [if_pos rfl] at H; exact H
 clear H
 have H := H1
 clear H1
 replace H := Option.bind_eq_some_iff.mp H
 obtain ⟨⟨t581, t582, t583⟩, A640, H⟩ := H
 replace H : (if (!(t581 == ((rd_T23 y560 x10_2).f0)) || (!(t582 == ((rd_T23 y560 x10_2).f1)) || (!(t583.toList == (((rd_T23 y560 x10_2).f2).toList))))) = true then ((hearsayref02_stands.f kj39 t567).bind fun bt586 => (if x9_2.length < 3518437208883 then (hearsayref02_Unify.l0 kj39 t551 t554 y560 (x9_2 ++ [(⟨(rd_T23 y560 x10_2).f1, (⟨bt586.1, bt586.2.1, bt586.2.2⟩ : S23)⟩ : S44)]) (wrap64 (x10_2 + 1)) a0_0 a0_1 a0_2 a0_3 l0_4 a1_0 a1_1 a1_2 a1_3 l1_4) else (none))) else (hearsayref02_Unify.l0 kj39 t551 t554 y560 x9_2 (wrap64 (x10_2 + 1)) a0_0 a0_1 a0_2 a0_3 l0_4 a1_0 a1_1 a1_2 a1_3 l1_4)) = some (r1, r2) := H
 have A64 := Aside0.mk A640
 clear A640
 by_cases c65 : (!(t581 == ((rd_T23 y560 x10_2).f0)) || (!(t582 == ((rd_T23 y560 x10_2).f1)) || (!(t583.toList == (((rd_T23 y560 x10_2).f2).toList))))) = true
 rotate_left
 ·
  rw [if_neg c65] at H
  have c65b0 : (!(t581 == ((rd_T23 y560 x10_2).f0)) || (!(t582 == ((rd_T23 y560 x10_2).f1)) || (!(t583.toList == (((rd_T23 y560 x10_2).f2).toList))))) = false := by simpa using c65
  clear c65
  have H' := Aside0.mk H
  clear H
  try go_wp2
  have n0_ := Aside0.mk (qy HO_6.out)
  have n1_ := Aside0.mk (qy HO_7.out)
  have n2_ := Aside0.mk (qy HO_8.out)
  have n3_ := Aside0.mk (qy HO_9.out)
  have n4_ := Aside0.mk (qy HO_11.out)
  have n5_ := Aside0.mk (qb BK549.out)
  have n6_ := Aside0.mk (qb BK550.out)
  have n7_ := Aside0.mk (qe HB.out)
  clear HO_6
  clear HO_7
  clear HO_8
  clear HO_9
  clear HO_11
  clear BK549
  clear BK550
  clear HB
  have HO_6 := n0_
  have HO_7 := n1_
  have HO_8 := n2_
  have HO_9 := n3_
  have HO_11 := n4_
  have BK549 := n5_
  have BK550 := n6_
  have HB := n7_
  clear n0_ n1_ n2_ n3_ n4_ n5_ n6_ n7_
  have p579 : 0 ≤ (x10_2 : Int) := of_decide_eq_true (by first | (with_reducible assumption) | assumption)
  have q579 : x10_2 < (y560.length : Int) := of_decide_eq_true (by first | (with_reducible assumption) | assumption)
  obtain ⟨ad579, e579, hx579_0, hx579_1, hx579_2⟩ := at_T23 (Kd.R_reads' HO_8.out).2.2 x10_2 p579 q579
  obtain rfl : ad566 = ad579 := (by injection e579)
  replace p579 := eq_true p579
  replace q579 := eq_true q579
  have p584 : 0 ≤ (x10_2 : Int) := of_decide_eq_true (by first | (with_reducible assumption) | assumption)
  have q584 : x10_2 < (y560.length : Int) := of_decide_eq_true (by first | (with_reducible assumption) | assumption)
  obtain ⟨ad584, e584, hx584_0, hx584_1, hx584_2⟩ := at_T23 (Kd.R_reads' HO_8.out).2.2 x10_2 p584 q584
  obtain rfl : ad566 = ad584 := (by injection e584)
  replace p584 := eq_true p584
  replace q584 := eq_true q584
  refine start_ (n := 14) (S := fun w' => w'.cell? (ad566.add ((x10_2).toNat * 3)) = some (.int .i64 ((rd_T23 y560 x10_2).f0)) ∧ w'.cell? ⟨(ad566.add ((x10_2).toNat * 3)).block, (ad566.add ((x10_2).toNat * 3)).off + 1, none⟩ = some (.int .i64 ((rd_T23 y560 x10_2).f1)) ∧ w'.cell? ⟨(ad566.add ((x10_2).toNat * 3)).block, (ad566.add ((x10_2).toNat * 3)).off + 2, none⟩ = some (.string ((rd_T23 y560 x10_2).f2)) ∧ w'.cell? (ad566.add ((x10_2).toNat * 3)) = some (.int .i64 ((rd_T23 y560 x10_2).f0)) ∧ w'.cell? ⟨(ad566.add ((x10_2).toNat * 3)).block, (ad566.add ((x10_2).toNat * 3)).off + 1, none⟩ = some (.int .i64 ((rd_T23 y560 x10_2).f1)) ∧ w'.cell? ⟨(ad566.add ((x10_2).toNat * 3)).block, (ad566.add ((x10_2).toNat * 3)).off + 2, none⟩ = some (.string ((rd_T23 y560 x10_2).f2))) (ds := []) #[false, false, false, false, false, false, false, false, false, false, false, false, false, false] (by kernel_rfl) rfl rfl ⟨hx579_0, hx579_1, hx579_2, hx584_0, hx584_1, hx584_2⟩ (fun hHeld => ?_); refine with_tabW hearsayref02_Unify.tab15 hearsayref02_Unify.bits15 (fun HT_ HW_ => ?_)
  generalize wc.drew = w74 at HO_6 HO_7 HO_8 HO_9 HO_11 BK549 BK550 HB hx579_0 hx579_1 hx579_2 hx584_0 hx584_1 hx584_2 hHeld ⊢
  refine pure_ (i := 0) (N := some 92) (v := ?_) (a' := ?_) #[true, false, false, false, false, false, false, false, false, false, false, false, false, false] rfl rfl (any_of HT_.out (by kernel_rfl)) (fun _ _ _ h => h) (Or.inl ⟨by rfl, ?_⟩) ?_ ?_
  rotate_left
  · intro w'
    go_simp
    with_reducible rfl
  rotate_left
  · simp only [Act.put, List.setIfInBounds_toArray, List.set_cons_zero, List.set_cons_succ, i64_w, i32_w]
    rfl
  refine pure_ (i := 1) (N := some 93) (v := ?_) (a' := ?_) #[true, true, false, false, false, false, false, false, false, false, false, false, false, false] rfl rfl (any_of HT_.out (by kernel_rfl)) (fun _ _ _ h => h) (Or.inl ⟨by rfl, ?_⟩) ?_ ?_
  rotate_left
  · intro w'
    go_simp
    with_reducible rfl
  rotate_left
  · simp only [Act.put, List.setIfInBounds_toArray, List.set_cons_zero, List.set_cons_succ, i64_w, i32_w]
    rfl
  refine pure_ (i := 2) (N := some 94) (v := ?_) (a' := ?_) #[true, true, true, false, false, false, false, false, false, false, false, false, false, false] rfl rfl (any_of HT_.out (by kernel_rfl)) (fun _ _ _ h => h) (Or.inl ⟨by rfl, ?_⟩) ?_ ?_
  rotate_left
  · intro w'
    go_simp
    with_reducible rfl
  rotate_left
  · simp only [Act.put, List.setIfInBounds_toArray, List.set_cons_zero, List.set_cons_succ, i64_w, i32_w]
    rfl
  refine take_ (i := 3) (N := some 95) (v := ?_) (a' := ?_) #[true, true, true, true, false, false, false, false, false, false, false, false, false, false] rfl rfl (take_ofW HT_.out HW_.out (by kernel_rfl)) (fun _ _ _ h => h) (Or.inl ⟨by rfl, ?_⟩) hHeld ?_ ?_
  rotate_left
  · rintro w' ⟨s0, s1, s2, s3, s4, s5⟩
    go_simp
    with_reducible rfl
  rotate_left
  · simp only [Act.put, List.setIfInBounds_toArray, List.set_cons_zero, List.set_cons_succ, i64_w, i32_w]
    rfl
  refine one_ (i := 4) (N := some 96) #[true, true, true, true, true, false, false, false, false, false, false, false, false, false] rfl rfl (one_of HT_.out (by kernel_rfl)) (by decide) (fun K hK => ?_)
  refine goes_ Tryd.func52 (by kernel_rfl) rfl #[.agg #[.int .i64 ((rd_T23 y560 x10_2).f0), .int .i64 ((rd_T23 y560 x10_2).f1), .string ((rd_T23 y560 x10_2).f2)]] (by rfl) rfl rfl (by (try simp only [List.map_toArray, List.map_cons, List.map_nil]); first | done | rfl | (simp only [List.length_drop, List.length_take]; rfl)) ?_
  with_reducible refine (hearsayref02_Variable.calls ((rd_T23 y560 x10_2).f0) ((rd_T23 y560 x10_2).f1) ((rd_T23 y560 x10_2).f2) true _ A62.out).mono ?_
  rintro e w75 ⟨rfl, hb⟩
  have HS0_ := (hb.cell (ql _ _ (hHeld.1))).trans (hHeld.1)
  have HS1_ := (hb.cell (ql _ _ (hHeld.2.1))).trans (hHeld.2.1)
  have HS2_ := (hb.cell (ql _ _ (hHeld.2.2.1))).trans (hHeld.2.2.1)
  have HS3_ := (hb.cell (ql _ _ (hHeld.2.2.2.1))).trans (hHeld.2.2.2.1)
  have HS4_ := (hb.cell (ql _ _ (hHeld.2.2.2.2.1))).trans (hHeld.2.2.2.2.1)
  have HS5_ := (hb.cell (ql _ _ (hHeld.2.2.2.2.2))).trans (hHeld.2.2.2.2.2)
  refine ⟨_, rfl, ?_⟩
  have n0_ := Aside0.mk (Kd.R_below (by (with_reducible repeat (first | apply qz | apply qx | apply qy)); exact HO_6.out) hb)
  have n1_ := Aside0.mk (Kd.R_below (by (with_reducible repeat (first | apply qz | apply qx | apply qy)); exact HO_7.out) hb)
  have n2_ := Aside0.mk (Kd.R_below (by (with_reducible repeat (first | apply qz | apply qx | apply qy)); exact HO_8.out) hb)
  have n3_ := Aside0.mk (Kd.R_below (by (with_reducible repeat (first | apply qz | apply qx | apply qy)); exact HO_9.out) hb)
  have n4_ := Aside0.mk (Kd.R_below (by (with_reducible repeat (first | apply qz | apply qx | apply qy)); exact HO_11.out) hb)
  have n5_ := Aside0.mk (qw (g := gb549) (o := .cells #[.int .i64 a0_0, .int .i64 a0_1, .string a0_2, .string a0_3, .slice A0_4 l0_4.length c0_4] 26 (0, 0)) (by (with_reducible repeat (first | refine qa ?_ _ | refine qb ?_ | refine qc ?_ _)); exact BK549.out) hb)
  have n6_ := Aside0.mk (qw (g := gb550) (o := .cells #[.int .i64 a1_0, .int .i64 a1_1, .string a1_2, .string a1_3, .slice A1_4 l1_4.length c1_4] 26 (0, 0)) (by (with_reducible repeat (first | refine qa ?_ _ | refine qb ?_ | refine qc ?_ _)); exact BK550.out) hb)
  have n7_ := Aside0.mk (below_step (by repeat (first | (with_reducible first | exact HB.out | apply qf | apply qn | apply qe | refine qd ?_ GE549.out | refine qd ?_ GE550.out) | exact HB.out)) hb)
  clear HO_6
  clear HO_7
  clear HO_8
  clear HO_9
  clear HO_11
  clear BK549
  clear BK550
  clear HB
  have HO_6 := n0_
  have HO_7 := n1_
  have HO_8 := n2_
  have HO_9 := n3_
  have HO_11 := n4_
  have BK549 := n5_
  have BK550 := n6_
  have HB := n7_
  clear n0_ n1_ n2_ n3_ n4_ n5_ n6_ n7_
  (try clear hb)
  (try clear hb2)
  (try clear hk)
  (try clear hi)
  refine hK.out _ _ ⟨HS0_, HS1_, HS2_, HS3_, HS4_, HS5_⟩ (fun hHeld => ?_)
  clear hK K
  refine norm_ (a' := ?_) ?_ ?_
  rotate_left
  · show Act.put _ (some 96) _ = _
    simp only [Act.put, List.setIfInBounds_toArray, List.set_cons_zero, List.set_cons_succ, i64_w, i32_w]
    rfl
  refine pure_ (i := 5) (N := some 97) (v := ?_) (a' := ?_) #[true, true, true, true, true, true, false, false, false, false, false, false, false, false] rfl rfl (any_of HT_.out (by kernel_rfl)) (fun _ _ _ h => h) (Or.inl ⟨by rfl, ?_⟩) ?_ ?_
  rotate_left
  · intro w'
    go_simp
    with_reducible rfl
  rotate_left
  · simp only [Act.put, List.setIfInBounds_toArray, List.set_cons_zero, List.set_cons_succ, i64_w, i32_w]
    rfl
  refine pure_ (i := 6) (N := some 98) (v := ?_) (a' := ?_) #[true, true, true, true, true, true, true, false, false, false, false, false, false, false] rfl rfl (any_of HT_.out (by kernel_rfl)) (fun _ _ _ h => h) (Or.inl ⟨by rfl, ?_⟩) ?_ ?_
  rotate_left
  · intro w'
    go_simp
    with_reducible rfl
  rotate_left
  · simp only [Act.put, List.setIfInBounds_toArray, List.set_cons_zero, List.set_cons_succ, i64_w, i32_w]
    rfl
  refine pure_ (i := 8) (N := some 100) (v := ?_) (a' := ?_) #[true, true, true, true, true, true, true, false, true, false, false, false, false, false] rfl rfl (any_of HT_.out (by kernel_rfl)) (fun _ _ _ h => h) (Or.inl ⟨by rfl, ?_⟩) ?_ ?_
  rotate_left
  · intro w'
    go_simp
    with_reducible rfl
  rotate_left
  · simp only [Act.put, List.setIfInBounds_toArray, List.set_cons_zero, List.set_cons_succ, i64_w, i32_w]
    rfl
  refine pure_ (i := 9) (N := some 101) (v := ?_) (a' := ?_) #[true, true, true, true, true, true, true, false, true, true, false, false, false, false] rfl rfl (any_of HT_.out (by kernel_rfl)) (fun _ _ _ h => h) (Or.inl ⟨by rfl, ?_⟩) ?_ ?_
  rotate_left
  · intro w'
    go_simp
    with_reducible rfl
  rotate_left
  · simp only [Act.put, List.setIfInBounds_toArray, List.set_cons_zero, List.set_cons_succ, i64_w, i32_w]
    rfl
  refine pure_ (i := 10) (N := some 102) (v := ?_) (a' := ?_) #[true, true, true, true, true, true, true, false, true, true, true, false, false, false] rfl rfl (any_of HT_.out (by kernel_rfl)) (fun _ _ _ h => h) (Or.inl ⟨by rfl, ?_⟩) ?_ ?_
  rotate_left
  · intro w'
    go_simp
    with_reducible rfl
  rotate_left
  · simp only [Act.put, List.setIfInBounds_toArray, List.set_cons_zero, List.set_cons_succ, i64_w, i32_w]
    rfl
  refine take_ (i := 11) (N := some 103) (v := ?_) (a' := ?_) #[true, true, true, true, true, true, true, false, true, true, true, true, false, false] rfl rfl (take_ofW HT_.out HW_.out (by kernel_rfl)) (fun _ _ _ h => h) (Or.inl ⟨by rfl, ?_⟩) hHeld ?_ ?_
  rotate_left
  · rintro w' ⟨s0, s1, s2, s3, s4, s5⟩
    go_simp
    with_reducible rfl
  rotate_left
  · simp only [Act.put, List.setIfInBounds_toArray, List.set_cons_zero, List.set_cons_succ, i64_w, i32_w]
    rfl
  refine one_ (i := 7) (N := some 99) #[true, true, true, true, true, true, true, true, true, true, true, true, false, false] rfl rfl (one_of HT_.out (by kernel_rfl)) (by decide) (fun K hK => ?_)
  refine goes_ Tryd.func65 (by kernel_rfl) rfl #[.slice Ao35 t567.length co35] (by rfl) rfl rfl (by (try simp only [List.map_toArray, List.map_cons, List.map_nil]); first | done | rfl | (simp only [List.length_drop, List.length_take]; rfl)) ?_
  with_reducible refine (hearsayref02_stands.calls kj39 _ _ t567 t581 t582 t583 _ ?side1 ?side2 A64.out).mono ?_
  (case side1 => repeat (first | exact (Kd.R_reads' HO_11.out).2.2 | (with_reducible refine Kd.C_alloc ?_ _) | (with_reducible refine Kd.C_drewN ?_ _) | (with_reducible refine Kd.C_drew ?_)))
  (case side2 => exact (Kd.R_reads' HO_11.out).2.1)
  rintro e w76 ⟨rfl, hb⟩
  have HS0_ := (hb.cell (ql _ _ (hHeld.1))).trans (hHeld.1)
  have HS1_ := (hb.cell (ql _ _ (hHeld.2.1))).trans (hHeld.2.1)
  have HS2_ := (hb.cell (ql _ _ (hHeld.2.2.1))).trans (hHeld.2.2.1)
  have HS3_ := (hb.cell (ql _ _ (hHeld.2.2.2.1))).trans (hHeld.2.2.2.1)
  have HS4_ := (hb.cell (ql _ _ (hHeld.2.2.2.2.1))).trans (hHeld.2.2.2.2.1)
  have HS5_ := (hb.cell (ql _ _ (hHeld.2.2.2.2.2))).trans (hHeld.2.2.2.2.2)
  refine ⟨_, rfl, ?_⟩
  have n0_ := Aside0.mk (Kd.R_below (by (with_reducible repeat (first | apply qz | apply qx | apply qy)); exact HO_6.out) hb)
  have n1_ := Aside0.mk (Kd.R_below (by (with_reducible repeat (first | apply qz | apply qx | apply qy)); exact HO_7.out) hb)
  have n2_ := Aside0.mk (Kd.R_below (by (with_reducible repeat (first | apply qz | apply qx | apply qy)); exact HO_8.out) hb)
  have n3_ := Aside0.mk (Kd.R_below (by (with_reducible repeat (first | apply qz | apply qx | apply qy)); exact HO_9.out) hb)
  have n4_ := Aside0.mk (Kd.R_below (by (with_reducible repeat (first | apply qz | apply qx | apply qy)); exact HO_11.out) hb)
  have n5_ := Aside0.mk (qw (g := gb549) (o := .cells #[.int .i64 a0_0, .int .i64 a0_1, .string a0_2, .string a0_3, .slice A0_4 l0_4.length c0_4] 26 (0, 0)) (by (with_reducible repeat (first | refine qa ?_ _ | refine qb ?_ | refine qc ?_ _)); exact BK549.out) hb)
  have n6_ := Aside0.mk (qw (g := gb550) (o := .cells #[.int .i64 a1_0, .int .i64 a1_1, .string a1_2, .string a1_3, .slice A1_4 l1_4.length c1_4] 26 (0, 0)) (by (with_reducible repeat (first | refine qa ?_ _ | refine qb ?_ | refine qc ?_ _)); exact BK550.out) hb)
  have n7_ := Aside0.mk (below_step (by repeat (first | (with_reducible first | exact HB.out | apply qf | apply qn | apply qe | refine qd ?_ GE549.out | refine qd ?_ GE550.out) | exact HB.out)) hb)
  clear HO_6
  clear HO_7
  clear HO_8
  clear HO_9
  clear HO_11
  clear BK549
  clear BK550
  clear HB
  have HO_6 := n0_
  have HO_7 := n1_
  have HO_8 := n2_
  have HO_9 := n3_
  have HO_11 := n4_
  have BK549 := n5_
  have BK550 := n6_
  have HB := n7_
  clear n0_ n1_ n2_ n3_ n4_ n5_ n6_ n7_
  (try clear hb)
  (try clear hb2)
  (try clear hk)
  (try clear hi)
  refine hK.out _ _ ⟨HS0_, HS1_, HS2_, HS3_, HS4_, HS5_⟩ (fun hHeld => ?_)
  clear hK K
  refine norm_ (a' := ?_) ?_ ?_
  rotate_left
  · show Act.put _ (some 99) _ = _
    simp only [Act.put, List.setIfInBounds_toArray, List.set_cons_zero, List.set_cons_succ, i64_w, i32_w]
    rfl
  refine pure_ (i := 12) (N := some 104) (v := ?_) (a' := ?_) #[true, true, true, true, true, true, true, true, true, true, true, true, true, false] rfl rfl (any_of HT_.out (by kernel_rfl)) (fun _ _ _ h => h) (Or.inl ⟨by rfl, ?_⟩) ?_ ?_
  rotate_left
  · intro w'
    go_simp
    with_reducible rfl
  rotate_left
  · simp only [Act.put, List.setIfInBounds_toArray, List.set_cons_zero, List.set_cons_succ, i64_w, i32_w]
    rfl
  refine pure_ (i := 13) (N := some 105) (v := ?_) (a' := ?_) #[true, true, true, true, true, true, true, true, true, true, true, true, true, true] rfl rfl (any_of HT_.out (by kernel_rfl)) (fun _ _ _ h => h) (Or.inl ⟨by rfl, ?_⟩) ?_ ?_
  rotate_left
  · intro w'
    go_simp
    with_reducible rfl
  rotate_left
  · simp only [Act.put, List.setIfInBounds_toArray, List.set_cons_zero, List.set_cons_succ, i64_w, i32_w]
    rfl
  refine done_ (done_of HT_.out (by kernel_rfl)) ?_
  try go_wp2
  go_roundg kj39
  case measure => have := HJ2.out; have := HK2.out; have := HJ30.out; have := HJ39.out; omega
  exact ⟨(x9_2), (wrap64 (x10_2 + 1)), (by first | rfl | (simp; done) | (simp [*]; done)), H', ⟨by have := HJ2.out; have := HK2.out; have := HJ30.out; have := HJ39.out; omega⟩, ⟨by (with_reducible repeat (first | apply qz | apply qx | apply qy)); exact Kd.R_mono HO_6.out (fun _ hk => ⟨hk.1, hk.2.1⟩)⟩, ⟨by (with_reducible repeat (first | apply qz | apply qx | apply qy)); exact Kd.R_mono HO_7.out (fun _ hk => ⟨hk.1, hk.2.1⟩)⟩, ⟨by (with_reducible repeat (first | apply qz | apply qx | apply qy)); exact Kd.R_mono HO_8.out (fun _ hk => ⟨hk.1, hk.2.1⟩)⟩, ⟨by (with_reducible repeat (first | apply qz | apply qx | apply qy)); exact HO_9.out⟩, ⟨by (with_reducible repeat (first | refine qa ?_ _ | refine qb ?_ | refine qc ?_ _)); exact BK549.out⟩, ⟨by (with_reducible repeat (first | refine qa ?_ _ | refine qb ?_ | refine qc ?_ _)); exact BK550.out⟩, ⟨by repeat (first | (with_reducible first | exact HB.out | apply qf | apply qn | apply qe | refine qd ?_ GE549.out | refine qd ?_ GE550.out) | exact HB.out)⟩⟩
 rw [if_pos c65] at H
 have c65b0 : (!(t581 == ((rd_T23 y560 x10_2).f0)) || (!(t582 == ((rd_T23 y560 x10_2).f1)) || (!(t583.toList == (((rd_T23 y560 x10_2).f2).toList))))) = true := c65
 clear c65
 replace H := Option.bind_eq_some_iff.mp H
 obtain ⟨⟨t586, t587, t588⟩, A660, H⟩ := H
 replace H : (if x9_2.length < 3518437208883 then (hearsayref02_Unify.l0 kj39 t551 t554 y560 (x9_2 ++ [(⟨(rd_T23 y560 x10_2).f1, (⟨t586, t587, t588⟩ : S23)⟩ : S44)]) (wrap64 (x10_2 + 1)) a0_0 a0_1 a0_2 a0_3 l0_4 a1_0 a1_1 a1_2 a1_3 l1_4) else (none)) = some (r1, r2) := H
 have A66 := Aside0.mk A660
 clear A660
 by_cases c67 : x9_2.length < 3518437208883
 rotate_left
 · rw [if_neg c67] at H
   exact absurd H (by simp)
 rw [if_pos c67] at H
 have LMc67 := Aside0.mk c67
 clear c67
 obtain ⟨y589, hy589⟩ : ∃ y_ : List (S44), y_ = (x9_2 ++ [(⟨(rd_T23 y560 x10_2).f1, (⟨t586, t587, t588⟩ : S23)⟩ : S44)]) := ⟨_, rfl⟩
 replace H : (hearsayref02_Unify.l0 kj39 t551 t554 y560 y589 (wrap64 (x10_2 + 1)) a0_0 a0_1 a0_2 a0_3 l0_4 a1_0 a1_1 a1_2 a1_3 l1_4) = some (r1, r2) := by first | (rw [hy589]; with_reducible exact H) | (have H2_ := (Option.bind_some _ _).symm.trans H; rw [hy589]; with_reducible exact H2_) | (have H2_ := (Option.bind_some _ _).symm.trans H; with_reducible exact H2_) | with_reducible exact H | (rw [hy589]; exact H) | exact H
 have Ny589 := Aside0.mk hy589
 clear hy589
 have H' := Aside0.mk H
 clear H
 try go_wp2
 have n0_ := Aside0.mk (qy HO_6.out)
 have n1_ := Aside0.mk (qy HO_7.out)
 have n2_ := Aside0.mk (qy HO_8.out)
 have n3_ := Aside0.mk (qy HO_9.out)
 have n4_ := Aside0.mk (qy HO_11.out)
 have n5_ := Aside0.mk (qb BK549.out)
 have n6_ := Aside0.mk (qb BK550.out)
 have n7_ := Aside0.mk (qe HB.out)
 clear HO_6
 clear HO_7
 clear HO_8
 clear HO_9
 clear HO_11
 clear BK549
 clear BK550
 clear HB
 have HO_6 := n0_
 have HO_7 := n1_
 have HO_8 := n2_
 have HO_9 := n3_
 have HO_11 := n4_
 have BK549 := n5_
 have BK550 := n6_
 have HB := n7_
 clear n0_ n1_ n2_ n3_ n4_ n5_ n6_ n7_
 have p579 : 0 ≤ (x10_2 : Int) := of_decide_eq_true (by first | (with_reducible assumption) | assumption)
 have q579 : x10_2 < (y560.length : Int) := of_decide_eq_true (by first | (with_reducible assumption) | assumption)
 obtain ⟨ad579, e579, hx579_0, hx579_1, hx579_2⟩ := at_T23 (Kd.R_reads' HO_8.out).2.2 x10_2 p579 q579
 obtain rfl : ad566 = ad579 := (by injection e579)
 replace p579 := eq_true p579
 replace q579 := eq_true q579
 have p584 : 0 ≤ (x10_2 : Int) := of_decide_eq_true (by first | (with_reducible assumption) | assumption)
 have q584 : x10_2 < (y560.length : Int) := of_decide_eq_true (by first | (with_reducible assumption) | assumption)
 obtain ⟨ad584, e584, hx584_0, hx584_1, hx584_2⟩ := at_T23 (Kd.R_reads' HO_8.out).2.2 x10_2 p584 q584
 obtain rfl : ad566 = ad584 := (by injection e584)
 replace p584 := eq_true p584
 replace q584 := eq_true q584
 refine start_ (n := 14) (S := fun w' => w'.cell? (ad566.add ((x10_2).toNat * 3)) = some (.int .i64 ((rd_T23 y560 x10_2).f0)) ∧ w'.cell? ⟨(ad566.add ((x10_2).toNat * 3)).block, (ad566.add ((x10_2).toNat * 3)).off + 1, none⟩ = some (.int .i64 ((rd_T23 y560 x10_2).f1)) ∧ w'.cell? ⟨(ad566.add ((x10_2).toNat * 3)).block, (ad566.add ((x10_2).toNat * 3)).off + 2, none⟩ = some (.string ((rd_T23 y560 x10_2).f2)) ∧ w'.cell? (ad566.add ((x10_2).toNat * 3)) = some (.int .i64 ((rd_T23 y560 x10_2).f0)) ∧ w'.cell? ⟨(ad566.add ((x10_2).toNat * 3)).block, (ad566.add ((x10_2).toNat * 3)).off + 1, none⟩ = some (.int .i64 ((rd_T23 y560 x10_2).f1)) ∧ w'.cell? ⟨(ad566.add ((x10_2).toNat * 3)).block, (ad566.add ((x10_2).toNat * 3)).off + 2, none⟩ = some (.string ((rd_T23 y560 x10_2).f2))) (ds := []) #[false, false, false, false, false, false, false, false, false, false, false, false, false, false] (by kernel_rfl) rfl rfl ⟨hx579_0, hx579_1, hx579_2, hx584_0, hx584_1, hx584_2⟩ (fun hHeld => ?_); refine with_tabW hearsayref02_Unify.tab15 hearsayref02_Unify.bits15 (fun HT_ HW_ => ?_)
 generalize wc.drew = w68 at HO_6 HO_7 HO_8 HO_9 HO_11 BK549 BK550 HB hx579_0 hx579_1 hx579_2 hx584_0 hx584_1 hx584_2 hHeld ⊢
 refine pure_ (i := 0) (N := some 92) (v := ?_) (a' := ?_) #[true, false, false, false, false, false, false, false, false, false, false, false, false, false] rfl rfl (any_of HT_.out (by kernel_rfl)) (fun _ _ _ h => h) (Or.inl ⟨by rfl, ?_⟩) ?_ ?_
 rotate_left
 · intro w'
   go_simp
   with_reducible rfl
 rotate_left
 · simp only [Act.put, List.setIfInBounds_toArray, List.set_cons_zero, List.set_cons_succ, i64_w, i32_w]
   rfl
 refine pure_ (i := 1) (N := some 93) (v := ?_) (a' := ?_) #[true, true, false, false, false, false, false, false, false, false, false, false, false, false] rfl rfl (any_of HT_.out (by kernel_rfl)) (fun _ _ _ h => h) (Or.inl ⟨by rfl, ?_⟩) ?_ ?_
 rotate_left
 · intro w'
   go_simp
   with_reducible rfl
 rotate_left
 · simp only [Act.put, List.setIfInBounds_toArray, List.set_cons_zero, List.set_cons_succ, i64_w, i32_w]
   rfl
 refine pure_ (i := 2) (N := some 94) (v := ?_) (a' := ?_) #[true, true, true, false, false, false, false, false, false, false, false, false, false, false] rfl rfl (any_of HT_.out (by kernel_rfl)) (fun _ _ _ h => h) (Or.inl ⟨by rfl, ?_⟩) ?_ ?_
 rotate_left
 · intro w'
   go_simp
   with_reducible rfl
 rotate_left
 · simp only [Act.put, List.setIfInBounds_toArray, List.set_cons_zero, List.set_cons_succ, i64_w, i32_w]
   rfl
 refine take_ (i := 3) (N := some 95) (v := ?_) (a' := ?_) #[true, true, true, true, false, false, false, false, false, false, false, false, false, false] rfl rfl (take_ofW HT_.out HW_.out (by kernel_rfl)) (fun _ _ _ h => h) (Or.inl ⟨by rfl, ?_⟩) hHeld ?_ ?_
 rotate_left
 · rintro w' ⟨s0, s1, s2, s3, s4, s5⟩
   go_simp
   with_reducible rfl
 rotate_left
 · simp only [Act.put, List.setIfInBounds_toArray, List.set_cons_zero, List.set_cons_succ, i64_w, i32_w]
   rfl
 refine one_ (i := 4) (N := some 96) #[true, true, true, true, true, false, false, false, false, false, false, false, false, false] rfl rfl (one_of HT_.out (by kernel_rfl)) (by decide) (fun K hK => ?_)
 refine goes_ Tryd.func52 (by kernel_rfl) rfl #[.agg #[.int .i64 ((rd_T23 y560 x10_2).f0), .int .i64 ((rd_T23 y560 x10_2).f1), .string ((rd_T23 y560 x10_2).f2)]] (by rfl) rfl rfl (by (try simp only [List.map_toArray, List.map_cons, List.map_nil]); first | done | rfl | (simp only [List.length_drop, List.length_take]; rfl)) ?_
 with_reducible refine (hearsayref02_Variable.calls ((rd_T23 y560 x10_2).f0) ((rd_T23 y560 x10_2).f1) ((rd_T23 y560 x10_2).f2) true _ A62.out).mono ?_
 rintro e w69 ⟨rfl, hb⟩
 have HS0_ := (hb.cell (ql _ _ (hHeld.1))).trans (hHeld.1)
 have HS1_ := (hb.cell (ql _ _ (hHeld.2.1))).trans (hHeld.2.1)
 have HS2_ := (hb.cell (ql _ _ (hHeld.2.2.1))).trans (hHeld.2.2.1)
 have HS3_ := (hb.cell (ql _ _ (hHeld.2.2.2.1))).trans (hHeld.2.2.2.1)
 have HS4_ := (hb.cell (ql _ _ (hHeld.2.2.2.2.1))).trans (hHeld.2.2.2.2.1)
 have HS5_ := (hb.cell (ql _ _ (hHeld.2.2.2.2.2))).trans (hHeld.2.2.2.2.2)
 refine ⟨_, rfl, ?_⟩
 have n0_ := Aside0.mk (Kd.R_below (by (with_reducible repeat (first | apply qz | apply qx | apply qy)); exact HO_6.out) hb)
 have n1_ := Aside0.mk (Kd.R_below (by (with_reducible repeat (first | apply qz | apply qx | apply qy)); exact HO_7.out) hb)
 have n2_ := Aside0.mk (Kd.R_below (by (with_reducible repeat (first | apply qz | apply qx | apply qy)); exact HO_8.out) hb)
 have n3_ := Aside0.mk (Kd.R_below (by (with_reducible repeat (first | apply qz | apply qx | apply qy)); exact HO_9.out) hb)
 have n4_ := Aside0.mk (Kd.R_below (by (with_reducible repeat (first | apply qz | apply qx | apply qy)); exact HO_11.out) hb)
 have n5_ := Aside0.mk (qw (g := gb549) (o := .cells #[.int .i64 a0_0, .int .i64 a0_1, .string a0_2, .string a0_3, .slice A0_4 l0_4.length c0_4] 26 (0, 0)) (by (with_reducible repeat (first | refine qa ?_ _ | refine qb ?_ | refine qc ?_ _)); exact BK549.out) hb)
 have n6_ := Aside0.mk (qw (g := gb550) (o := .cells #[.int .i64 a1_0, .int .i64 a1_1, .string a1_2, .string a1_3, .slice A1_4 l1_4.length c1_4] 26 (0, 0)) (by (with_reducible repeat (first | refine qa ?_ _ | refine qb ?_ | refine qc ?_ _)); exact BK550.out) hb)
 have n7_ := Aside0.mk (below_step (by repeat (first | (with_reducible first | exact HB.out | apply qf | apply qn | apply qe | refine qd ?_ GE549.out | refine qd ?_ GE550.out) | exact HB.out)) hb)
 clear HO_6
 clear HO_7
 clear HO_8
 clear HO_9
 clear HO_11
 clear BK549
 clear BK550
 clear HB
 have HO_6 := n0_
 have HO_7 := n1_
 have HO_8 := n2_
 have HO_9 := n3_
 have HO_11 := n4_
 have BK549 := n5_
 have BK550 := n6_
 have HB := n7_
 clear n0_ n1_ n2_ n3_ n4_ n5_ n6_ n7_
 (try clear hb)
 (try clear hb2)
 (try clear hk)
 (try clear hi)
 refine hK.out _ _ ⟨HS0_, HS1_, HS2_, HS3_, HS4_, HS5_⟩ (fun hHeld => ?_)
 clear hK K
 refine norm_ (a' := ?_) ?_ ?_
 rotate_left
 · show Act.put _ (some 96) _ = _
   simp only [Act.put, List.setIfInBounds_toArray, List.set_cons_zero, List.set_cons_succ, i64_w, i32_w]
   rfl
 refine pure_ (i := 5) (N := some 97) (v := ?_) (a' := ?_) #[true, true, true, true, true, true, false, false, false, false, false, false, false, false] rfl rfl (any_of HT_.out (by kernel_rfl)) (fun _ _ _ h => h) (Or.inl ⟨by rfl, ?_⟩) ?_ ?_
 rotate_left
 · intro w'
   go_simp
   with_reducible rfl
 rotate_left
 · simp only [Act.put, List.setIfInBounds_toArray, List.set_cons_zero, List.set_cons_succ, i64_w, i32_w]
   rfl
 refine pure_ (i := 6) (N := some 98) (v := ?_) (a' := ?_) #[true, true, true, true, true, true, true, false, false, false, false, false, false, false] rfl rfl (any_of HT_.out (by kernel_rfl)) (fun _ _ _ h => h) (Or.inl ⟨by rfl, ?_⟩) ?_ ?_
 rotate_left
 · intro w'
   go_simp
   with_reducible rfl
 rotate_left
 · simp only [Act.put, List.setIfInBounds_toArray, List.set_cons_zero, List.set_cons_succ, i64_w, i32_w]
   rfl
 refine pure_ (i := 8) (N := some 100) (v := ?_) (a' := ?_) #[true, true, true, true, true, true, true, false, true, false, false, false, false, false] rfl rfl (any_of HT_.out (by kernel_rfl)) (fun _ _ _ h => h) (Or.inl ⟨by rfl, ?_⟩) ?_ ?_
 rotate_left
 · intro w'
   go_simp
   with_reducible rfl
 rotate_left
 · simp only [Act.put, List.setIfInBounds_toArray, List.set_cons_zero, List.set_cons_succ, i64_w, i32_w]
   rfl
 refine pure_ (i := 9) (N := some 101) (v := ?_) (a' := ?_) #[true, true, true, true, true, true, true, false, true, true, false, false, false, false] rfl rfl (any_of HT_.out (by kernel_rfl)) (fun _ _ _ h => h) (Or.inl ⟨by rfl, ?_⟩) ?_ ?_
 rotate_left
 · intro w'
   go_simp
   with_reducible rfl
 rotate_left
 · simp only [Act.put, List.setIfInBounds_toArray, List.set_cons_zero, List.set_cons_succ, i64_w, i32_w]
   rfl
 refine pure_ (i := 10) (N := some 102) (v := ?_) (a' := ?_) #[true, true, true, true, true, true, true, false, true, true, true, false, false, false] rfl rfl (any_of HT_.out (by kernel_rfl)) (fun _ _ _ h => h) (Or.inl ⟨by rfl, ?_⟩) ?_ ?_
 rotate_left
 · intro w'
   go_simp
   with_reducible rfl
 rotate_left
 · simp only [Act.put, List.setIfInBounds_toArray, List.set_cons_zero, List.set_cons_succ, i64_w, i32_w]
   rfl
 refine take_ (i := 11) (N := some 103) (v := ?_) (a' := ?_) #[true, true, true, true, true, true, true, false, true, true, true, true, false, false] rfl rfl (take_ofW HT_.out HW_.out (by kernel_rfl)) (fun _ _ _ h => h) (Or.inl ⟨by rfl, ?_⟩) hHeld ?_ ?_
 rotate_left
 · rintro w' ⟨s0, s1, s2, s3, s4, s5⟩
   go_simp
   with_reducible rfl
 rotate_left
 · simp only [Act.put, List.setIfInBounds_toArray, List.set_cons_zero, List.set_cons_succ, i64_w, i32_w]
   rfl
 refine one_ (i := 7) (N := some 99) #[true, true, true, true, true, true, true, true, true, true, true, true, false, false] rfl rfl (one_of HT_.out (by kernel_rfl)) (by decide) (fun K hK => ?_)
 refine goes_ Tryd.func65 (by kernel_rfl) rfl #[.slice Ao35 t567.length co35] (by rfl) rfl rfl (by (try simp only [List.map_toArray, List.map_cons, List.map_nil]); first | done | rfl | (simp only [List.length_drop, List.length_take]; rfl)) ?_
 with_reducible refine (hearsayref02_stands.calls kj39 _ _ t567 t581 t582 t583 _ ?side1 ?side2 A64.out).mono ?_
 (case side1 => repeat (first | exact (Kd.R_reads' HO_11.out).2.2 | (with_reducible refine Kd.C_alloc ?_ _) | (with_reducible refine Kd.C_drewN ?_ _) | (with_reducible refine Kd.C_drew ?_)))
 (case side2 => exact (Kd.R_reads' HO_11.out).2.1)
 rintro e w70 ⟨rfl, hb⟩
 have HS0_ := (hb.cell (ql _ _ (hHeld.1))).trans (hHeld.1)
 have HS1_ := (hb.cell (ql _ _ (hHeld.2.1))).trans (hHeld.2.1)
 have HS2_ := (hb.cell (ql _ _ (hHeld.2.2.1))).trans (hHeld.2.2.1)
 have HS3_ := (hb.cell (ql _ _ (hHeld.2.2.2.1))).trans (hHeld.2.2.2.1)
 have HS4_ := (hb.cell (ql _ _ (hHeld.2.2.2.2.1))).trans (hHeld.2.2.2.2.1)
 have HS5_ := (hb.cell (ql _ _ (hHeld.2.2.2.2.2))).trans (hHeld.2.2.2.2.2)
 refine ⟨_, rfl, ?_⟩
 have n0_ := Aside0.mk (Kd.R_below (by (with_reducible repeat (first | apply qz | apply qx | apply qy)); exact HO_6.out) hb)
 have n1_ := Aside0.mk (Kd.R_below (by (with_reducible repeat (first | apply qz | apply qx | apply qy)); exact HO_7.out) hb)
 have n2_ := Aside0.mk (Kd.R_below (by (with_reducible repeat (first | apply qz | apply qx | apply qy)); exact HO_8.out) hb)
 have n3_ := Aside0.mk (Kd.R_below (by (with_reducible repeat (first | apply qz | apply qx | apply qy)); exact HO_9.out) hb)
 have n4_ := Aside0.mk (Kd.R_below (by (with_reducible repeat (first | apply qz | apply qx | apply qy)); exact HO_11.out) hb)
 have n5_ := Aside0.mk (qw (g := gb549) (o := .cells #[.int .i64 a0_0, .int .i64 a0_1, .string a0_2, .string a0_3, .slice A0_4 l0_4.length c0_4] 26 (0, 0)) (by (with_reducible repeat (first | refine qa ?_ _ | refine qb ?_ | refine qc ?_ _)); exact BK549.out) hb)
 have n6_ := Aside0.mk (qw (g := gb550) (o := .cells #[.int .i64 a1_0, .int .i64 a1_1, .string a1_2, .string a1_3, .slice A1_4 l1_4.length c1_4] 26 (0, 0)) (by (with_reducible repeat (first | refine qa ?_ _ | refine qb ?_ | refine qc ?_ _)); exact BK550.out) hb)
 have n7_ := Aside0.mk (below_step (by repeat (first | (with_reducible first | exact HB.out | apply qf | apply qn | apply qe | refine qd ?_ GE549.out | refine qd ?_ GE550.out) | exact HB.out)) hb)
 clear HO_6
 clear HO_7
 clear HO_8
 clear HO_9
 clear HO_11
 clear BK549
 clear BK550
 clear HB
 have HO_6 := n0_
 have HO_7 := n1_
 have HO_8 := n2_
 have HO_9 := n3_
 have HO_11 := n4_
 have BK549 := n5_
 have BK550 := n6_
 have HB := n7_
 clear n0_ n1_ n2_ n3_ n4_ n5_ n6_ n7_
 (try clear hb)
 (try clear hb2)
 (try clear hk)
 (try clear hi)
 refine hK.out _ _ ⟨HS0_, HS1_, HS2_, HS3_, HS4_, HS5_⟩ (fun hHeld => ?_)
 clear hK K
 refine norm_ (a' := ?_) ?_ ?_
 rotate_left
 · show Act.put _ (some 99) _ = _
   simp only [Act.put, List.setIfInBounds_toArray, List.set_cons_zero, List.set_cons_succ, i64_w, i32_w]
   rfl
 refine pure_ (i := 12) (N := some 104) (v := ?_) (a' := ?_) #[true, true, true, true, true, true, true, true, true, true, true, true, true, false] rfl rfl (any_of HT_.out (by kernel_rfl)) (fun _ _ _ h => h) (Or.inl ⟨by rfl, ?_⟩) ?_ ?_
 rotate_left
 · intro w'
   go_simp
   with_reducible rfl
 rotate_left
 · simp only [Act.put, List.setIfInBounds_toArray, List.set_cons_zero, List.set_cons_succ, i64_w, i32_w]
   rfl
 refine pure_ (i := 13) (N := some 105) (v := ?_) (a' := ?_) #[true, true, true, true, true, true, true, true, true, true, true, true, true, true] rfl rfl (any_of HT_.out (by kernel_rfl)) (fun _ _ _ h => h) (Or.inl ⟨by rfl, ?_⟩) ?_ ?_
 rotate_left
 · intro w'
   go_simp
   with_reducible rfl
 rotate_left
 · simp only [Act.put, List.setIfInBounds_toArray, List.set_cons_zero, List.set_cons_succ, i64_w, i32_w]
   rfl
 refine done_ (done_of HT_.out (by kernel_rfl)) ?_
 try go_wp2
 have n0_ := Aside0.mk (qy HO_6.out)
 have n1_ := Aside0.mk (qy HO_7.out)
 have n2_ := Aside0.mk (qy HO_8.out)
 have n3_ := Aside0.mk (qy HO_9.out)
 have n4_ := Aside0.mk (qy HO_11.out)
 have n5_ := Aside0.mk (qb BK549.out)
 have n6_ := Aside0.mk (qb BK550.out)
 have n7_ := Aside0.mk (qe HB.out)
 clear HO_6
 clear HO_7
 clear HO_8
 clear HO_9
 clear HO_11
 clear BK549
 clear BK550
 clear HB
 have HO_6 := n0_
 have HO_7 := n1_
 have HO_8 := n2_
 have HO_9 := n3_
 have HO_11 := n4_
 have BK549 := n5_
 have BK550 := n6_
 have HB := n7_
 clear n0_ n1_ n2_ n3_ n4_ n5_ n6_ n7_
 have p585 : 0 ≤ (x10_2 : Int) := of_decide_eq_true (by first | (with_reducible assumption) | assumption)
 have q585 : x10_2 < (y560.length : Int) := of_decide_eq_true (by first | (with_reducible assumption) | assumption)
 obtain ⟨ad585, e585, hx585_0, hx585_1, hx585_2⟩ := at_T23 (Kd.R_reads' HO_8.out).2.2 x10_2 p585 q585
 obtain rfl : ad566 = ad585 := (by injection e585)
 replace p585 := eq_true p585
 replace q585 := eq_true q585
 refine start_ (n := 12) (S := fun w' => w'.cell? (ad566.add ((x10_2).toNat * 3)) = some (.int .i64 ((rd_T23 y560 x10_2).f0)) ∧ w'.cell? ⟨(ad566.add ((x10_2).toNat * 3)).block, (ad566.add ((x10_2).toNat * 3)).off + 1, none⟩ = some (.int .i64 ((rd_T23 y560 x10_2).f1)) ∧ w'.cell? ⟨(ad566.add ((x10_2).toNat * 3)).block, (ad566.add ((x10_2).toNat * 3)).off + 2, none⟩ = some (.string ((rd_T23 y560 x10_2).f2))) (ds := [9, 10]) #[false, false, false, false, false, false, false, false, false, false, false, false] (by kernel_rfl) rfl rfl ⟨hx585_0, hx585_1, hx585_2⟩ (fun hHeld => ?_); refine with_tabW hearsayref02_Unify.tab16 hearsayref02_Unify.bits16 (fun HT_ HW_ => ?_)
 generalize w70.drew = w71 at HO_6 HO_7 HO_8 HO_9 HO_11 BK549 BK550 HB hx585_0 hx585_1 hx585_2 hHeld ⊢
 refine pure_ (i := 0) (N := some 106) (v := ?_) (a' := ?_) #[true, false, false, false, false, false, false, false, false, false, false, false] rfl rfl (any_of HT_.out (by kernel_rfl)) (fun _ _ _ h => h) (Or.inl ⟨by rfl, ?_⟩) ?_ ?_
 rotate_left
 · intro w'
   go_simp
   with_reducible rfl
 rotate_left
 · simp only [Act.put, List.setIfInBounds_toArray, List.set_cons_zero, List.set_cons_succ, i64_w, i32_w]
   rfl
 refine pure_ (i := 1) (N := some 107) (v := ?_) (a' := ?_) #[true, true, false, false, false, false, false, false, false, false, false, false] rfl rfl (any_of HT_.out (by kernel_rfl)) (fun _ _ _ h => h) (Or.inl ⟨by rfl, ?_⟩) ?_ ?_
 rotate_left
 · intro w'
   go_simp
   with_reducible rfl
 rotate_left
 · simp only [Act.put, List.setIfInBounds_toArray, List.set_cons_zero, List.set_cons_succ, i64_w, i32_w]
   rfl
 refine pure_ (i := 2) (N := some 108) (v := ?_) (a' := ?_) #[true, true, true, false, false, false, false, false, false, false, false, false] rfl rfl (any_of HT_.out (by kernel_rfl)) (fun _ _ _ h => h) (Or.inl ⟨by rfl, ?_⟩) ?_ ?_
 rotate_left
 · intro w'
   go_simp
   with_reducible rfl
 rotate_left
 · simp only [Act.put, List.setIfInBounds_toArray, List.set_cons_zero, List.set_cons_succ, i64_w, i32_w]
   rfl
 refine pure_ (i := 3) (N := some 109) (v := ?_) (a' := ?_) #[true, true, true, true, false, false, false, false, false, false, false, false] rfl rfl (any_of HT_.out (by kernel_rfl)) (fun _ _ _ h => h) (Or.inl ⟨by rfl, ?_⟩) ?_ ?_
 rotate_left
 · intro w'
   go_simp
   with_reducible rfl
 rotate_left
 · simp only [Act.put, List.setIfInBounds_toArray, List.set_cons_zero, List.set_cons_succ, i64_w, i32_w]
   rfl
 refine pure_ (i := 4) (N := some 110) (v := ?_) (a' := ?_) #[true, true, true, true, true, false, false, false, false, false, false, false] rfl rfl (any_of HT_.out (by kernel_rfl)) (fun _ _ _ h => h) (Or.inl ⟨by rfl, ?_⟩) ?_ ?_
 rotate_left
 · intro w'
   go_simp
   with_reducible rfl
 rotate_left
 · simp only [Act.put, List.setIfInBounds_toArray, List.set_cons_zero, List.set_cons_succ, i64_w, i32_w]
   rfl
 refine pure_ (i := 6) (N := some 112) (v := ?_) (a' := ?_) #[true, true, true, true, true, false, true, false, false, false, false, false] rfl rfl (any_of HT_.out (by kernel_rfl)) (fun _ _ _ h => h) (Or.inl ⟨by rfl, ?_⟩) ?_ ?_
 rotate_left
 · intro w'
   go_simp
   with_reducible rfl
 rotate_left
 · simp only [Act.put, List.setIfInBounds_toArray, List.set_cons_zero, List.set_cons_succ, i64_w, i32_w]
   rfl
 refine take_ (i := 5) (N := some 111) (v := ?_) (a' := ?_) #[true, true, true, true, true, true, true, false, false, false, false, false] rfl rfl (take_ofW HT_.out HW_.out (by kernel_rfl)) (fun _ _ _ h => h) (Or.inl ⟨by rfl, ?_⟩) hHeld ?_ ?_
 rotate_left
 · rintro w' ⟨s0, s1, s2⟩
   go_simp
   with_reducible rfl
 rotate_left
 · simp only [Act.put, List.setIfInBounds_toArray, List.set_cons_zero, List.set_cons_succ, i64_w, i32_w]
   rfl
 refine one_ (i := 7) (N := some 113) #[true, true, true, true, true, true, true, true, false, false, false, false] rfl rfl (one_of HT_.out (by kernel_rfl)) (by decide) (fun K hK => ?_)
 refine goes_ Tryd.func65 (by kernel_rfl) rfl #[.slice Ao35 t567.length co35] (by rfl) rfl rfl (by (try simp only [List.map_toArray, List.map_cons, List.map_nil]); first | done | rfl | (simp only [List.length_drop, List.length_take]; rfl)) ?_
 with_reducible refine (hearsayref02_stands.calls kj39 _ _ t567 t586 t587 t588 _ ?side1 ?side2 A66.out).mono ?_
 (case side1 => repeat (first | exact (Kd.R_reads' HO_11.out).2.2 | (with_reducible refine Kd.C_alloc ?_ _) | (with_reducible refine Kd.C_drewN ?_ _) | (with_reducible refine Kd.C_drew ?_)))
 (case side2 => exact (Kd.R_reads' HO_11.out).2.1)
 rintro e w72 ⟨rfl, hb⟩
 have HS0_ := (hb.cell (ql _ _ (hHeld.1))).trans (hHeld.1)
 have HS1_ := (hb.cell (ql _ _ (hHeld.2.1))).trans (hHeld.2.1)
 have HS2_ := (hb.cell (ql _ _ (hHeld.2.2))).trans (hHeld.2.2)
 refine ⟨_, rfl, ?_⟩
 have n0_ := Aside0.mk (Kd.R_below (by (with_reducible repeat (first | apply qz | apply qx | apply qy)); exact HO_6.out) hb)
 have n1_ := Aside0.mk (Kd.R_below (by (with_reducible repeat (first | apply qz | apply qx | apply qy)); exact HO_7.out) hb)
 have n2_ := Aside0.mk (Kd.R_below (by (with_reducible repeat (first | apply qz | apply qx | apply qy)); exact HO_8.out) hb)
 have n3_ := Aside0.mk (Kd.R_below (by (with_reducible repeat (first | apply qz | apply qx | apply qy)); exact HO_9.out) hb)
 have n4_ := Aside0.mk (Kd.R_below (by (with_reducible repeat (first | apply qz | apply qx | apply qy)); exact HO_11.out) hb)
 have n5_ := Aside0.mk (qw (g := gb549) (o := .cells #[.int .i64 a0_0, .int .i64 a0_1, .string a0_2, .string a0_3, .slice A0_4 l0_4.length c0_4] 26 (0, 0)) (by (with_reducible repeat (first | refine qa ?_ _ | refine qb ?_ | refine qc ?_ _)); exact BK549.out) hb)
 have n6_ := Aside0.mk (qw (g := gb550) (o := .cells #[.int .i64 a1_0, .int .i64 a1_1, .string a1_2, .string a1_3, .slice A1_4 l1_4.length c1_4] 26 (0, 0)) (by (with_reducible repeat (first | refine qa ?_ _ | refine qb ?_ | refine qc ?_ _)); exact BK550.out) hb)
 have n7_ := Aside0.mk (below_step (by repeat (first | (with_reducible first | exact HB.out | apply qf | apply qn | apply qe | refine qd ?_ GE549.out | refine qd ?_ GE550.out) | exact HB.out)) hb)
 clear HO_6
 clear HO_7
 clear HO_8
 clear HO_9
 clear HO_11
 clear BK549
 clear BK550
 clear HB
 have HO_6 := n0_
 have HO_7 := n1_
 have HO_8 := n2_
 have HO_9 := n3_
 have HO_11 := n4_
 have BK549 := n5_
 have BK550 := n6_
 have HB := n7_
 clear n0_ n1_ n2_ n3_ n4_ n5_ n6_ n7_
 (try clear hb)
 (try clear hb2)
 (try clear hk)
 (try clear hi)
 refine hK.out _ _ ⟨HS0_, HS1_, HS2_⟩ (fun hHeld => ?_)
 clear hK K
 refine norm_ (a' := ?_) ?_ ?_
 rotate_left
 · show Act.put _ (some 113) _ = _
   simp only [Act.put, List.setIfInBounds_toArray, List.set_cons_zero, List.set_cons_succ, i64_w, i32_w]
   rfl
 refine pure_ (i := 8) (N := some 114) (v := ?_) (a' := ?_) #[true, true, true, true, true, true, true, true, true, false, false, false] rfl rfl (any_of HT_.out (by kernel_rfl)) (fun _ _ _ h => h) (Or.inl ⟨by rfl, ?_⟩) ?_ ?_
 rotate_left
 · intro w'
   go_simp
   with_reducible rfl
 rotate_left
 · simp only [Act.put, List.setIfInBounds_toArray, List.set_cons_zero, List.set_cons_succ, i64_w, i32_w]
   rfl
 refine last_ (i := 9) (N := some 115) #[true, true, true, true, true, true, true, true, true, true, false, false] rfl rfl (one_of HT_.out (by kernel_rfl)) (by decide) (fun K hK => ?_)
 refine value_ (w1 := ?_) (v := ?_) (by rfl) rfl ?_ ?_
 rotate_left 2
 · go_simp
   constructor
   · rfl
   rfl
 refine hK.out _ _ ?_
 clear hK K
 refine norm_ (a' := ?_) ?_ ?_
 rotate_left
 · show Act.put _ (some 115) _ = _
   simp only [Act.put, List.setIfInBounds_toArray, List.set_cons_zero, List.set_cons_succ, i64_w, i32_w]
   rfl
 refine last_ (i := 10) (N := some 116) #[true, true, true, true, true, true, true, true, true, true, true, false] rfl rfl (one_of HT_.out (by kernel_rfl)) (by decide) (fun K hK => ?_)
 refine Kd.R_append_step k44 (w0 := w) w.heap.size (by rfl) (.tmp 106) (.tmp 115) 28 44 (.agg #[(.int .i64 0), (.int .i64 0), (.int .i64 0), (.string ⟨#[]⟩)]) 40 rfl Tryd.underlying28 info44 rfl (by decide) (by omega) u9 x9_2 (⟨(rd_T23 y560 x10_2).f1, (⟨t586, t587, t588⟩ : S23)⟩ : S44) [.int .i64 ((rd_T23 y560 x10_2).f1), .int .i64 t586, .int .i64 t587, .string t588] (fun _ => True) (fun _ => False) rfl rfl ?aP (fun _ hk => hk.elim) ?aF ?aO ?aB ?aS ?aL ?_
 (case aP => exact k44_mkM _ _ _ (⟨(rd_T23 y560 x10_2).f1, (⟨t586, t587, t588⟩ : S23)⟩ : S44))
 (case aB => exact (by repeat (first | (with_reducible first | exact HB.out | apply qf | apply qn | apply qe | refine qd ?_ GE549.out | refine qd ?_ GE550.out) | exact HB.out)))
 (case aF => exact (fun _ _ => trivial))
 (case aO => exact (by (with_reducible repeat (first | apply qz | apply qx | apply qy)); exact HO_9.out))
 (case aS => exact (below_size (by repeat (first | (with_reducible first | exact HB.out | apply qf | apply qn | apply qe | refine qd ?_ GE549.out | refine qd ?_ GE550.out) | exact HB.out))))
 (case aL => have := LMc67.out; omega)
 intro v590 w73 ho hb hg hat
 rw [← Ny589.out] at ho
 have n0_ := Aside0.mk (Kd.R_over' (by (with_reducible repeat (first | apply qz | apply qx | apply qy)); exact HO_6.out) (Kd.R_typed (by (with_reducible repeat (first | apply qz | apply qx | apply qy)); exact HO_9.out)) (by decide) hg)
 have n1_ := Aside0.mk (Kd.R_over' (by (with_reducible repeat (first | apply qz | apply qx | apply qy)); exact HO_7.out) (Kd.R_typed (by (with_reducible repeat (first | apply qz | apply qx | apply qy)); exact HO_9.out)) (by decide) hg)
 have n2_ := Aside0.mk (Kd.R_over' (by (with_reducible repeat (first | apply qz | apply qx | apply qy)); exact HO_8.out) (Kd.R_typed (by (with_reducible repeat (first | apply qz | apply qx | apply qy)); exact HO_9.out)) (by decide) hg)
 have n3_ := Aside0.mk (Kd.R_over' (by (with_reducible repeat (first | apply qz | apply qx | apply qy)); exact HO_11.out) (Kd.R_typed (by (with_reducible repeat (first | apply qz | apply qx | apply qy)); exact HO_9.out)) (by decide) hg)
 have n4_ := Aside0.mk (blk_grown (g := gb549) (o := .cells #[.int .i64 a0_0, .int .i64 a0_1, .string a0_2, .string a0_3, .slice A0_4 l0_4.length c0_4] 26 (0, 0)) (by (with_reducible repeat (first | refine qa ?_ _ | refine qb ?_ | refine qc ?_ _)); exact BK549.out) hg (Kd.R_ne HO_9.out BK549.out (by decide)))
 have n5_ := Aside0.mk (blk_grown (g := gb550) (o := .cells #[.int .i64 a1_0, .int .i64 a1_1, .string a1_2, .string a1_3, .slice A1_4 l1_4.length c1_4] 26 (0, 0)) (by (with_reducible repeat (first | refine qa ?_ _ | refine qb ?_ | refine qc ?_ _)); exact BK550.out) hg (Kd.R_ne HO_9.out BK550.out (by decide)))
 have n6_ := Aside0.mk (hb)
 have n7_ := Aside0.mk (ho)
 clear HO_6
 clear HO_7
 clear HO_8
 clear HO_11
 clear BK549
 clear BK550
 clear HB
 clear HO_9
 have HO_6 := n0_
 have HO_7 := n1_
 have HO_8 := n2_
 have HO_11 := n3_
 have BK549 := n4_
 have BK550 := n5_
 have HB := n6_
 have HO591 := n7_
 clear n0_ n1_ n2_ n3_ n4_ n5_ n6_ n7_
 clear ho hb hg hat
 refine hK.out _ _ ?_
 clear hK K
 refine norm_ (a' := ?_) ?_ ?_
 rotate_left
 · show Act.put _ (some 116) _ = _
   simp only [Act.put, List.setIfInBounds_toArray, List.set_cons_zero, List.set_cons_succ, i64_w, i32_w]
   rfl
 refine pure_ (i := 11) (N := some 9) (v := ?_) (a' := ?_) #[true, true, true, true, true, true, true, true, true, true, true, true] rfl rfl (any_of HT_.out (by kernel_rfl)) (fun _ _ _ h => h) (Or.inl ⟨by rfl, ?_⟩) ?_ ?_
 rotate_left
 · intro w'
   go_simp
   with_reducible rfl
 rotate_left
 · simp only [Act.put, List.setIfInBounds_toArray, List.set_cons_zero, List.set_cons_succ, i64_w, i32_w]
   rfl
 refine done_ (done_of HT_.out (by kernel_rfl)) ?_
 try go_wp2
 go_roundg kj39
 case measure => have := HJ2.out; have := HK2.out; have := HJ30.out; have := HJ39.out; omega
 exact ⟨(y589), (wrap64 (x10_2 + 1)), (by first | rfl | (simp; done) | (simp [*]; done)), H', ⟨by have := HJ2.out; have := HK2.out; have := HJ30.out; have := HJ39.out; omega⟩, ⟨by (with_reducible repeat (first | apply qz | apply qx | apply qy)); exact Kd.R_mono HO_6.out (fun _ hk => ⟨hk.1, hk.2.1⟩)⟩, ⟨by (with_reducible repeat (first | apply qz | apply qx | apply qy)); exact Kd.R_mono HO_7.out (fun _ hk => ⟨hk.1, hk.2.1⟩)⟩, ⟨by (with_reducible repeat (first | apply qz | apply qx | apply qy)); exact Kd.R_mono HO_8.out (fun _ hk => ⟨hk.1, hk.2.1⟩)⟩, ⟨by (with_reducible repeat (first | apply qz | apply qx | apply qy)); exact HO591.out⟩, ⟨by (with_reducible repeat (first | refine qa ?_ _ | refine qb ?_ | refine qc ?_ _)); exact BK549.out⟩, ⟨by (with_reducible repeat (first | refine qa ?_ _ | refine qb ?_ | refine qc ?_ _)); exact BK550.out⟩, ⟨by repeat (first | (with_reducible first | exact HB.out | apply qf | apply qn | apply qe | refine qd ?_ GE549.out | refine qd ?_ GE550.out) | exact HB.out)⟩⟩
end Go.Proofs.YtnomgmlfagiffaaDoor.T
