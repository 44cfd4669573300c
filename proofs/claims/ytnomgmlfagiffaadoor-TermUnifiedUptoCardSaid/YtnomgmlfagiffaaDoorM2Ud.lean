/- T15: texts of this claim, laid together. -/
import Derived.Test.YtnomgmlfagiffaaDoorM1Ud
/- By a program of this session (wip/tools/squeeze.py), out of the translation: hearsayref02_Class, its contract. -/
namespace Go.Proofs.YtnomgmlfagiffaaDoor.T
open Go.RowKit Go.Proofs.YtnomgmlfagiffaaDoorW.PrintWords Go.Proofs.YtnomgmlfagiffaaDoorW.PrintLast Go.Proofs.YtnomgmlfagiffaaDoorW.PrintMore
attribute [local go_sem] max2_int min2_int max_two min_two max_three min_three max_four min_four   -- for this text's walks alone
set_option linter.unusedVariables false
set_option linter.unusedSimpArgs false

attribute [local go_sem high] eqA23
set_option maxHeartbeats 8000000 in
set_option maxRecDepth 100000 in
theorem hearsayref02_Class.calls (k : Nat) (A0 : Option Addr) (c0 : Nat) (l0 : List (S23)) (A1 : Option Addr) (c1 : Nat) (l1 : List (S23)) (a2_0 : Int) (a2_1 : Int) (a2_2 : ByteArray) (r : List (S23)) (w : World) (hr0 : Kd.C k23 w A0 l0.length l0) (hc0 : l0.length ≤ c0) (hr1 : Kd.C k23 w A1 l1.length l1) (hc1 : l1.length ≤ c1) (h : hearsayref02_Class.f k l0 l1 a2_0 a2_1 a2_2 = some r) :
 Calls Tryd.prog 62 #[.slice A0 l0.length c0, .slice A1 l1.length c1, .agg #[.int .i64 a2_0, .int .i64 a2_1, .string a2_2]] w fun e w' => ∃ v0_ : Value, e = .returned (v0_) ∧ Kd.R k23 23 w' w.heap.size (fun _ => True) v0_ r ∧ Below w.heap.size w w' := by
 have hu23 := Tryd.underlying23
 have HR0 := Aside0.mk hr0
 have HC0 := Aside0.mk hc0
 clear hr0 hc0
 have HR1 := Aside0.mk hr1
 have HC1 := Aside0.mk hc1
 clear hr1 hc1
 have HB := Aside0.mk (Below.refl w.heap.size w)
 have H : (hearsayref02_Class.l0 k l0 l1 (([(⟨a2_0, a2_1, a2_2⟩ : S23)] : List (S23))) 0) = some r := h
 clear h
 obtain ⟨y504, hy504⟩ : ∃ y_ : List (S23), y_ = (([(⟨a2_0, a2_1, a2_2⟩ : S23)] : List (S23))) := ⟨_, rfl⟩
 replace H : (hearsayref02_Class.l0 k l0 l1 y504 0) = some r := by first | (rw [hy504]; with_reducible exact H) | (have H2_ := (Option.bind_some _ _).symm.trans H; rw [hy504]; with_reducible exact H2_) | (have H2_ := (Option.bind_some _ _).symm.trans H; with_reducible exact H2_) | with_reducible exact H | (rw [hy504]; exact H) | exact H
 have Ny504 := Aside0.mk hy504
 clear hy504
 have H' := Aside0.mk H
 clear H
 go_enter Tryd.func62, Tryd.ntmps62
 go_wp2_with (first | ((with_reducible refine gate_dst (N := 5) rfl ?_); refine box_event ?hg (N := 5) ?hd (cs := #[.int .i64 a2_0, .int .i64 a2_1, .string a2_2]) (t := 23) ?hr ?_; (case hd => rfl); (case hg => rfl); (case hr => first | (go_simp; done) | (go_simp; rfl)); intro gb503 hg w4 hbox hb; have n0_ := Aside0.mk (below_step (by repeat (first | (with_reducible first | exact HB.out | apply qf | apply qn | apply qe) | exact HB.out)) hb); have n1_ := Aside0.mk (hbox); have n2_ := Aside0.mk ((by rw [hg]; exact (below_size (by repeat (first | (with_reducible first | exact HB.out | apply qf | apply qn | apply qe) | exact HB.out))) : w.heap.size ≤ gb503)); have n3_ := Aside0.mk ((by rw [hg]; exact (below_size (by repeat (first | (with_reducible first | exact HB.out | apply qf | apply qn | apply qe) | exact HB.out))) : w.heap.size ≤ gb503)); clear HB; have HB := n0_; have BK503 := n1_; have GW503 := n2_; have GE503 := n3_; clear n0_ n1_ n2_ n3_; clear hb hbox hg; have hcz5_0 : w4.cell? ⟨gb503, 0, none⟩ = some (.int .i64 a2_0) := (blk_cell BK503.out 0).trans rfl; have hcz5_1 : w4.cell? ⟨gb503, 1, none⟩ = some (.int .i64 a2_1) := (blk_cell BK503.out 1).trans rfl; have hcz5_2 : w4.cell? ⟨gb503, 2, none⟩ = some (.string a2_2) := (blk_cell BK503.out 2).trans rfl; have hfz5_0 := blk_frozen BK503.out 0; have hfz5_1 := blk_frozen BK503.out 1; have hfz5_2 := blk_frozen BK503.out 2) | ((with_reducible refine gate_dst (N := 11) rfl ?_); refine Kd.R_lit k23 _ 23 ?hg (N := 11) ?hd (xs := ([(⟨a2_0, a2_1, a2_2⟩ : S23)] : List (S23))) (inner := [.int .i64 a2_0, .int .i64 a2_1, .string a2_2]) (ok := fun _ => True) (okp := fun _ => True) ?hr ?hp (fun _ hk => hk) trivial (Below.refl _ _) (Nat.le_refl _) (by simp) ?_; (case hd => rfl); (case hg => rfl); (case hr => first | (go_simp; done) | (go_simp; rfl)); (case hp => exact (Reps.c3 (show Kd.M k23 _ _ _ (⟨a2_0, a2_1, a2_2⟩ : S23) [.int .i64 a2_0, .int .i64 a2_1, .string a2_2] from (k23_mkM _ _ _ (⟨a2_0, a2_1, a2_2⟩ : S23) )) (Reps.none _ _))); intro v505 w6 ho7 hb hg_ hnew_; clear hg_ hnew_; (first | rw [← Ny504.out] at ho7 | (simp only [Int.reduceToNat] at ho7; rw [← Ny504.out] at ho7)); have n0_ := Aside0.mk (Kd.R_lower (Kd.R_newB ho7 (g := gb503) (o := .cells #[.int .i64 a2_0, .int .i64 a2_1, .string a2_2] 23 (0, 0)) (by (with_reducible repeat (first | refine qa ?_ _ | refine qb ?_ | refine qc ?_ _)); exact BK503.out)) (below_size (by repeat (first | (with_reducible first | exact HB.out | apply qf | apply qn | apply qe | refine qd ?_ GE503.out) | exact HB.out)))); have n1_ := Aside0.mk (blk_below (g := gb503) (o := .cells #[.int .i64 a2_0, .int .i64 a2_1, .string a2_2] 23 (0, 0)) (by (with_reducible repeat (first | refine qa ?_ _ | refine qb ?_ | refine qc ?_ _)); exact BK503.out) hb); have n2_ := Aside0.mk (below_step (by repeat (first | (with_reducible first | exact HB.out | apply qf | apply qn | apply qe | refine qd ?_ GE503.out) | exact HB.out)) hb); clear BK503; clear HB; have HO506 := n0_; have BK503 := n1_; have HB := n2_; clear n0_ n1_ n2_; clear hb ho7))
 go_loopg [7, 8] k (fun kq v7 v8 w' => ∃ (x7_1 : List (S23)) (x8_1 : Int), v8 = .int .i64 x8_1 ∧ Aside0 (hearsayref02_Class.l0 kq l0 l1 x7_1 x8_1 = some r) ∧ Aside0 (kq ≤ k) ∧ Aside0 (Kd.R k23 23 w' w.heap.size (fun k_ => k_ ≠ gb503) v7 x7_1) ∧ Aside0 (w'.heap[gb503]? = some (.cells #[.int .i64 a2_0, .int .i64 a2_1, .string a2_2] 23 (0, 0))) ∧ Aside0 (Below w.heap.size w w'))
 case atStart => exact ⟨(y504), (0), (by first | rfl | (simp; done) | (simp [*]; done)), H', ⟨Nat.le_refl _⟩, ⟨by (with_reducible repeat (first | apply qz | apply qx | apply qy)); exact Kd.R_mono HO506.out (fun _ hk => hk.2)⟩, ⟨by (with_reducible repeat (first | refine qa ?_ _ | refine qb ?_ | refine qc ?_ _)); exact BK503.out⟩, ⟨by repeat (first | (with_reducible first | exact HB.out | apply qf | apply qn | apply qe | refine qd ?_ GE503.out) | exact HB.out)⟩⟩
 clear H'
 obtain ⟨x7_1, x8_1, rfl, HA, HK1, HO_7, BK503, HB⟩ := hrel
 rcases gk with _ | k1
 · exact absurd HA.out (by simp [hearsayref02_Class.l0])
 have H := HA.out
 clear HA
 simp only [hearsayref02_Class.l0] at H
 by_cases c8 : x8_1 < (x7_1.length : Int)
 rotate_left
 ·
  rw [if_neg c8] at H
  have c8b0 : decide (x8_1 < (x7_1.length : Int)) = false := decide_eq_false c8
  clear c8
  obtain rfl := Option.some.inj H
  obtain ⟨Ao64, co64, eo64⟩ := Kd.R_slice HO_7.out
  subst eo64
  go_wp2
  go_ret
  exact ⟨_, by first | rfl | (simp [errW_none, errW_some] <;> rfl) | (simp [errW_none, errW_some, bne, show ∀ l_ : List UInt8, (l_ == []) = l_.isEmpty from fun l_ => by cases l_ <;> rfl]; done) | (simp [*, errW_none, errW_some] <;> rfl), by (with_reducible repeat (first | apply qz | apply qx | apply qy)); exact Kd.R_mono HO_7.out (fun _ hk => trivial), by repeat (first | (with_reducible first | exact HB.out | apply qf | apply qn | apply qe | refine qd ?_ GE503.out) | exact HB.out)⟩
 rw [if_pos c8] at H
 have c8b0 : decide (x8_1 < (x7_1.length : Int)) = true := decide_eq_true c8
 clear c8
 have H' := Aside0.mk H
 clear H
 obtain ⟨Ao9, co9, eo9⟩ := Kd.R_slice HO_7.out
 subst eo9
 go_wp2
 go_loopg [7, 9] k1 (fun kq v7 v9 w' => ∃ (x7_2 : List (S23)) (x9_2 : Int), v9 = .int .i64 x9_2 ∧ Aside0 (hearsayref02_Class.l1 kq l0 l1 x7_2 x8_1 x9_2 = some r) ∧ Aside0 (kq ≤ k1) ∧ Aside0 (Kd.R k23 23 w' w.heap.size (fun k_ => k_ ≠ gb503) v7 x7_2) ∧ Aside0 (w'.heap[gb503]? = some (.cells #[.int .i64 a2_0, .int .i64 a2_1, .string a2_2] 23 (0, 0))) ∧ Aside0 (Below w.heap.size w w'))
 case atStart => exact ⟨(x7_1), (0), (by first | rfl | (simp; done) | (simp [*]; done)), H', ⟨Nat.le_refl _⟩, ⟨by (with_reducible repeat (first | apply qz | apply qx | apply qy)); exact HO_7.out⟩, ⟨by (with_reducible repeat (first | refine qa ?_ _ | refine qb ?_ | refine qc ?_ _)); exact BK503.out⟩, ⟨by repeat (first | (with_reducible first | exact HB.out | apply qf | apply qn | apply qe | refine qd ?_ GE503.out) | exact HB.out)⟩⟩
 clear H'
 obtain ⟨x7_2, x9_2, rfl, HA, HK2, HO_7, BK503, HB⟩ := hrel
 rcases gk with _ | k2
 · exact absurd HA.out (by simp [hearsayref02_Class.l1])
 have H := HA.out
 clear HA
 simp only [hearsayref02_Class.l1] at H
 by_cases c10 : x9_2 < (l0.length : Int)
 rotate_left
 ·
  rw [if_neg c10] at H
  have c10b0 : decide (x9_2 < (l0.length : Int)) = false := decide_eq_false c10
  clear c10
  have H' := Aside0.mk H
  clear H
  go_wp2
  go_roundg k2
  case measure => have := HK1.out; have := HK2.out; omega
  exact ⟨(x7_2), (wrap64 (x8_1 + 1)), (by first | rfl | (simp; done) | (simp [*]; done)), H', ⟨by have := HK1.out; have := HK2.out; omega⟩, ⟨by (with_reducible repeat (first | apply qz | apply qx | apply qy)); exact HO_7.out⟩, ⟨by (with_reducible repeat (first | refine qa ?_ _ | refine qb ?_ | refine qc ?_ _)); exact BK503.out⟩, ⟨by repeat (first | (with_reducible first | exact HB.out | apply qf | apply qn | apply qe | refine qd ?_ GE503.out) | exact HB.out)⟩⟩
 rw [if_pos c10] at H
 have c10b0 : decide (x9_2 < (l0.length : Int)) = true := decide_eq_true c10
 clear c10
 have HC11 := Aside0.mk H
 clear H
 go_upto_region 8 with (fail)
 go_cut [41] (fun v41 wc => ∃ (kq : Nat) (x41_10 : Bool), v41 = .bool x41_10 ∧ Aside0 (hearsayref02_Class.j2 kq l0 l1 x7_2 x8_1 x9_2 x41_10 = some r) ∧ Aside0 (kq ≤ k2) ∧ Aside0 (Kd.R k23 23 wc w.heap.size (fun k_ => k_ ≠ gb503) u7 x7_2) ∧ Aside0 (wc.heap[gb503]? = some (.cells #[.int .i64 a2_0, .int .i64 a2_1, .string a2_2] 23 (0, 0))) ∧ Aside0 (Below w.heap.size w wc))
 case first =>
  have H := HC11.out
  clear HC11
  by_cases c12 : 0 ≤ x9_2
  rotate_left
  · rw [if_neg c12] at H
    exact absurd H (by simp)
  rw [if_pos c12] at H
  have c12b0 : decide (0 ≤ x9_2) = true := decide_eq_true c12
  clear c12
  (first | rw [c12b0] | (simp only [i64_w, i32_w]; rw [c12b0]) | skip)
  by_cases c13 : 0 ≤ x8_1
  rotate_left
  · rw [if_neg c13] at H
    exact absurd H (by simp)
  rw [if_pos c13] at H
  have c13b0 : decide (0 ≤ x8_1) = true := decide_eq_true c13
  clear c13
  by_cases c14 : x8_1 < (x7_2.length : Int)
  rotate_left
  · rw [if_neg c14] at H
    exact absurd H (by simp)
  rw [if_pos c14] at H
  have c14b0 : decide (x8_1 < (x7_2.length : Int)) = true := decide_eq_true c14
  clear c14
  by_cases c15 : (((rd_T23 l0 x9_2).f0) == ((rd_T23 x7_2 x8_1).f0) && (((rd_T23 l0 x9_2).f1) == ((rd_T23 x7_2 x8_1).f1) && ((((rd_T23 l0 x9_2).f2).toList) == (((rd_T23 x7_2 x8_1).f2).toList)))) = true
  rotate_left
  ·
   rw [if_neg c15] at H
   have c15b0 : (((rd_T23 l0 x9_2).f0) == ((rd_T23 x7_2 x8_1).f0) && (((rd_T23 l0 x9_2).f1) == ((rd_T23 x7_2 x8_1).f1) && ((((rd_T23 l0 x9_2).f2).toList) == (((rd_T23 x7_2 x8_1).f2).toList)))) = false := by simpa using c15
   (try (have c15b1 : decide (((rd_T23 l0 x9_2).f0) = ((rd_T23 x7_2 x8_1).f0) && (((rd_T23 l0 x9_2).f1) == ((rd_T23 x7_2 x8_1).f1) && ((((rd_T23 l0 x9_2).f2).toList) == (((rd_T23 x7_2 x8_1).f2).toList)))) = false := by simpa using c15))
   (try (have c15b2 : (((rd_T23 l0 x9_2).f0) == ((rd_T23 x7_2 x8_1).f0) && (((rd_T23 l0 x9_2).f1) == ((rd_T23 x7_2 x8_1).f1) && ((((rd_T23 l0 x9_2).f2).toList) == (((rd_T23 x7_2 x8_1).f2).toList)))) = false := by simpa using c15))
   (try (have c15b3 : ¬ (((rd_T23 l0 x9_2).f0) = ((rd_T23 x7_2 x8_1).f0) && (((rd_T23 l0 x9_2).f1) == ((rd_T23 x7_2 x8_1).f1) && ((((rd_T23 l0 x9_2).f2).toList) == (((rd_T23 x7_2 x8_1).f2).toList)))) := by simpa using c15))
   clear c15
   have H' := Aside0.mk H
   clear H
   try go_wp2
   have n0_ := Aside0.mk (qy HO_7.out)
   have n1_ := Aside0.mk (qb BK503.out)
   have n2_ := Aside0.mk (qe HB.out)
   clear HO_7
   clear BK503
   clear HB
   have HO_7 := n0_
   have BK503 := n1_
   have HB := n2_
   clear n0_ n1_ n2_
   have p507 : 0 ≤ (x9_2 : Int) := of_decide_eq_true (by first | (with_reducible assumption) | assumption)
   have q507 : x9_2 < (l0.length : Int) := of_decide_eq_true (by first | (with_reducible assumption) | assumption)
   obtain ⟨ad507, e507, hx507_0, hx507_1, hx507_2⟩ := at_T23 HR0.out x9_2 p507 q507
   have hw507_2 := hx507_2
   have hw507_1 := hx507_1
   have hw507_0 := hx507_0
   cases e507
   replace hx507_0 := (HB.out.cell (ql w _ hx507_0)).trans hx507_0
   replace hx507_1 := (HB.out.cell (ql w _ hx507_1)).trans hx507_1
   replace hx507_2 := (HB.out.cell (ql w _ hx507_2)).trans hx507_2
   replace p507 := eq_true p507
   replace q507 := eq_true q507
   obtain ⟨Ao22, co22, eo22⟩ := Kd.R_slice HO_7.out
   (first | subst eo22 | (injection eo22 with f1_ f2_ f3_; have f4_ := f1_.symm; have f5_ := f3_.symm; clear f1_ f2_ f3_; subst f4_; subst f5_))
   have p508 : 0 ≤ (x8_1 : Int) := of_decide_eq_true (by first | (with_reducible assumption) | assumption)
   have q508 : x8_1 < (x7_2.length : Int) := of_decide_eq_true (by first | (with_reducible assumption) | assumption)
   obtain ⟨ad508, e508, hx508_0, hx508_1, hx508_2⟩ := at_T23 (Kd.R_reads' HO_7.out).2.2 x8_1 p508 q508
   cases e508
   replace p508 := eq_true p508
   replace q508 := eq_true q508
   refine start_ (n := 18) (S := fun w' => w'.cell? (ad507.add ((x9_2).toNat * 3)) = some (.int .i64 ((rd_T23 l0 x9_2).f0)) ∧ w'.cell? ⟨(ad507.add ((x9_2).toNat * 3)).block, (ad507.add ((x9_2).toNat * 3)).off + 1, none⟩ = some (.int .i64 ((rd_T23 l0 x9_2).f1)) ∧ w'.cell? ⟨(ad507.add ((x9_2).toNat * 3)).block, (ad507.add ((x9_2).toNat * 3)).off + 2, none⟩ = some (.string ((rd_T23 l0 x9_2).f2)) ∧ w'.cell? (ad508.add ((x8_1).toNat * 3)) = some (.int .i64 ((rd_T23 x7_2 x8_1).f0)) ∧ w'.cell? ⟨(ad508.add ((x8_1).toNat * 3)).block, (ad508.add ((x8_1).toNat * 3)).off + 1, none⟩ = some (.int .i64 ((rd_T23 x7_2 x8_1).f1)) ∧ w'.cell? ⟨(ad508.add ((x8_1).toNat * 3)).block, (ad508.add ((x8_1).toNat * 3)).off + 2, none⟩ = some (.string ((rd_T23 x7_2 x8_1).f2))) (ds := []) #[false, false, false, false, false, false, false, false, false, false, false, false, false, false, false, false, false, false] (by kernel_rfl) rfl rfl ⟨((HB.out.cell (ql w _ hw507_0)).trans hw507_0), ((HB.out.cell (ql w _ hw507_1)).trans hw507_1), ((HB.out.cell (ql w _ hw507_2)).trans hw507_2), hx508_0, hx508_1, hx508_2⟩ (fun hHeld => ?_); refine with_tabW hearsayref02_Class.tab8 hearsayref02_Class.bits8 (fun HT_ HW_ => ?_)
   generalize wr.drew = w21 at HO_7 BK503 HB hx507_0 hx507_1 hx507_2 hx508_0 hx508_1 hx508_2 hHeld ⊢
   refine pure_ (i := 0) (N := some 24) (v := ?_) (a' := ?_) #[true, false, false, false, false, false, false, false, false, false, false, false, false, false, false, false, false, false] rfl rfl (any_of HT_.out (by kernel_rfl)) (fun _ _ _ h => h) (Or.inl ⟨by rfl, ?_⟩) ?_ ?_
   rotate_left
   · intro w'
     go_simp
     with_reducible rfl
   rotate_left
   · simp only [Act.put, List.setIfInBounds_toArray, List.set_cons_zero, List.set_cons_succ, i64_w, i32_w]
     rfl
   refine pure_ (i := 1) (N := some 25) (v := ?_) (a' := ?_) #[true, true, false, false, false, false, false, false, false, false, false, false, false, false, false, false, false, false] rfl rfl (any_of HT_.out (by kernel_rfl)) (fun _ _ _ h => h) (Or.inl ⟨by rfl, ?_⟩) ?_ ?_
   rotate_left
   · intro w'
     go_simp
     with_reducible rfl
   rotate_left
   · simp only [Act.put, List.setIfInBounds_toArray, List.set_cons_zero, List.set_cons_succ, i64_w, i32_w]
     rfl
   refine pure_ (i := 2) (N := some 26) (v := ?_) (a' := ?_) #[true, true, true, false, false, false, false, false, false, false, false, false, false, false, false, false, false, false] rfl rfl (any_of HT_.out (by kernel_rfl)) (fun _ _ _ h => h) (Or.inl ⟨by rfl, ?_⟩) ?_ ?_
   rotate_left
   · intro w'
     go_simp
     with_reducible rfl
   rotate_left
   · simp only [Act.put, List.setIfInBounds_toArray, List.set_cons_zero, List.set_cons_succ, i64_w, i32_w]
     rfl
   refine pure_ (i := 4) (N := some 28) (v := ?_) (a' := ?_) #[true, true, true, false, true, false, false, false, false, false, false, false, false, false, false, false, false, false] rfl rfl (any_of HT_.out (by kernel_rfl)) (fun _ _ _ h => h) (Or.inl ⟨by rfl, ?_⟩) ?_ ?_
   rotate_left
   · intro w'
     go_simp
     with_reducible rfl
   rotate_left
   · simp only [Act.put, List.setIfInBounds_toArray, List.set_cons_zero, List.set_cons_succ, i64_w, i32_w]
     rfl
   refine pure_ (i := 5) (N := some 29) (v := ?_) (a' := ?_) #[true, true, true, false, true, true, false, false, false, false, false, false, false, false, false, false, false, false] rfl rfl (any_of HT_.out (by kernel_rfl)) (fun _ _ _ h => h) (Or.inl ⟨by rfl, ?_⟩) ?_ ?_
   rotate_left
   · intro w'
     go_simp
     with_reducible rfl
   rotate_left
   · simp only [Act.put, List.setIfInBounds_toArray, List.set_cons_zero, List.set_cons_succ, i64_w, i32_w]
     rfl
   refine pure_ (i := 6) (N := some 30) (v := ?_) (a' := ?_) #[true, true, true, false, true, true, true, false, false, false, false, false, false, false, false, false, false, false] rfl rfl (any_of HT_.out (by kernel_rfl)) (fun _ _ _ h => h) (Or.inl ⟨by rfl, ?_⟩) ?_ ?_
   rotate_left
   · intro w'
     go_simp
     with_reducible rfl
   rotate_left
   · simp only [Act.put, List.setIfInBounds_toArray, List.set_cons_zero, List.set_cons_succ, i64_w, i32_w]
     rfl
   refine take_ (i := 3) (N := some 27) (v := ?_) (a' := ?_) #[true, true, true, true, true, true, true, false, false, false, false, false, false, false, false, false, false, false] rfl rfl (take_ofW HT_.out HW_.out (by kernel_rfl)) (fun _ _ _ h => h) (Or.inl ⟨by rfl, ?_⟩) hHeld ?_ ?_
   rotate_left
   · rintro w' ⟨s0, s1, s2, s3, s4, s5⟩
     go_simp
     with_reducible rfl
   rotate_left
   · simp only [Act.put, List.setIfInBounds_toArray, List.set_cons_zero, List.set_cons_succ, i64_w, i32_w]
     rfl
   refine take_ (i := 7) (N := some 31) (v := ?_) (a' := ?_) #[true, true, true, true, true, true, true, true, false, false, false, false, false, false, false, false, false, false] rfl rfl (take_ofW HT_.out HW_.out (by kernel_rfl)) (fun _ _ _ h => h) (Or.inl ⟨by rfl, ?_⟩) hHeld ?_ ?_
   rotate_left
   · rintro w' ⟨s0, s1, s2, s3, s4, s5⟩
     go_simp
     with_reducible rfl
   rotate_left
   · simp only [Act.put, List.setIfInBounds_toArray, List.set_cons_zero, List.set_cons_succ, i64_w, i32_w]
     rfl
   refine pure_ (i := 8) (N := some 32) (v := ?_) (a' := ?_) #[true, true, true, true, true, true, true, true, true, false, false, false, false, false, false, false, false, false] rfl rfl (any_of HT_.out (by kernel_rfl)) (fun _ _ _ h => h) (Or.inl ⟨by rfl, ?_⟩) ?_ ?_
   rotate_left
   · intro w'
     go_simp
     with_reducible rfl
   rotate_left
   · simp only [Act.put, List.setIfInBounds_toArray, List.set_cons_zero, List.set_cons_succ, i64_w, i32_w]
     rfl
   refine pure_ (i := 9) (N := some 33) (v := ?_) (a' := ?_) #[true, true, true, true, true, true, true, true, true, true, false, false, false, false, false, false, false, false] rfl rfl (any_of HT_.out (by kernel_rfl)) (fun _ _ _ h => h) (Or.inl ⟨by rfl, ?_⟩) ?_ ?_
   rotate_left
   · intro w'
     go_simp
     with_reducible rfl
   rotate_left
   · simp only [Act.put, List.setIfInBounds_toArray, List.set_cons_zero, List.set_cons_succ, i64_w, i32_w]
     rfl
   refine pure_ (i := 10) (N := some 34) (v := undef) (a' := ?_) #[true, true, true, true, true, true, true, true, true, true, true, false, false, false, false, false, false, false] rfl rfl (any_of HT_.out (by kernel_rfl)) (fun _ _ _ h => h) (Or.inr ⟨by rfl, rfl⟩) ?_ ?_
   rotate_left
   · simp only [Act.put, List.setIfInBounds_toArray, List.set_cons_zero, List.set_cons_succ, i64_w, i32_w]
     rfl
   refine pure_ (i := 11) (N := some 35) (v := undef) (a' := ?_) #[true, true, true, true, true, true, true, true, true, true, true, true, false, false, false, false, false, false] rfl rfl (any_of HT_.out (by kernel_rfl)) (fun _ _ _ h => h) (Or.inr ⟨by rfl, rfl⟩) ?_ ?_
   rotate_left
   · simp only [Act.put, List.setIfInBounds_toArray, List.set_cons_zero, List.set_cons_succ, i64_w, i32_w]
     rfl
   refine pure_ (i := 12) (N := some 36) (v := undef) (a' := ?_) #[true, true, true, true, true, true, true, true, true, true, true, true, true, false, false, false, false, false] rfl rfl (any_of HT_.out (by kernel_rfl)) (fun _ _ _ h => h) (Or.inr ⟨by rfl, rfl⟩) ?_ ?_
   rotate_left
   · simp only [Act.put, List.setIfInBounds_toArray, List.set_cons_zero, List.set_cons_succ, i64_w, i32_w]
     rfl
   refine pure_ (i := 13) (N := some 37) (v := undef) (a' := ?_) #[true, true, true, true, true, true, true, true, true, true, true, true, true, true, false, false, false, false] rfl rfl (any_of HT_.out (by kernel_rfl)) (fun _ _ _ h => h) (Or.inr ⟨by rfl, rfl⟩) ?_ ?_
   rotate_left
   · simp only [Act.put, List.setIfInBounds_toArray, List.set_cons_zero, List.set_cons_succ, i64_w, i32_w]
     rfl
   refine pure_ (i := 14) (N := some 38) (v := undef) (a' := ?_) #[true, true, true, true, true, true, true, true, true, true, true, true, true, true, true, false, false, false] rfl rfl (any_of HT_.out (by kernel_rfl)) (fun _ _ _ h => h) (Or.inr ⟨by rfl, rfl⟩) ?_ ?_
   rotate_left
   · simp only [Act.put, List.setIfInBounds_toArray, List.set_cons_zero, List.set_cons_succ, i64_w, i32_w]
     rfl
   refine pure_ (i := 15) (N := some 39) (v := undef) (a' := ?_) #[true, true, true, true, true, true, true, true, true, true, true, true, true, true, true, true, false, false] rfl rfl (any_of HT_.out (by kernel_rfl)) (fun _ _ _ h => h) (Or.inr ⟨by rfl, rfl⟩) ?_ ?_
   rotate_left
   · simp only [Act.put, List.setIfInBounds_toArray, List.set_cons_zero, List.set_cons_succ, i64_w, i32_w]
     rfl
   refine pure_ (i := 16) (N := some 40) (v := undef) (a' := ?_) #[true, true, true, true, true, true, true, true, true, true, true, true, true, true, true, true, true, false] rfl rfl (any_of HT_.out (by kernel_rfl)) (fun _ _ _ h => h) (Or.inr ⟨by rfl, rfl⟩) ?_ ?_
   rotate_left
   · simp only [Act.put, List.setIfInBounds_toArray, List.set_cons_zero, List.set_cons_succ, i64_w, i32_w]
     rfl
   refine pure_ (i := 17) (N := some 41) (v := ?_) (a' := ?_) #[true, true, true, true, true, true, true, true, true, true, true, true, true, true, true, true, true, true] rfl rfl (any_of HT_.out (by kernel_rfl)) (fun _ _ _ h => h) (Or.inl ⟨by rfl, ?_⟩) ?_ ?_
   rotate_left
   · intro w'
     go_simp
     with_reducible rfl
   rotate_left
   · simp only [Act.put, List.setIfInBounds_toArray, List.set_cons_zero, List.set_cons_succ, i64_w, i32_w]
     rfl
   refine done_ (done_of HT_.out (by kernel_rfl)) ?_
   try go_wp2
   go_meet
   exact ⟨_, (false), (by first | rfl | (simp; done) | (simp [*]; done)), H', ⟨by have := HK1.out; have := HK2.out; first | omega | exact Nat.le_refl _⟩, ⟨by (with_reducible repeat (first | apply qz | apply qx | apply qy)); exact HO_7.out⟩, ⟨by (with_reducible repeat (first | refine qa ?_ _ | refine qb ?_ | refine qc ?_ _)); exact BK503.out⟩, ⟨by repeat (first | (with_reducible first | exact HB.out | apply qf | apply qn | apply qe | refine qd ?_ GE503.out) | exact HB.out)⟩⟩
  rw [if_pos c15] at H
  have c15b0 : (((rd_T23 l0 x9_2).f0) == ((rd_T23 x7_2 x8_1).f0) && (((rd_T23 l0 x9_2).f1) == ((rd_T23 x7_2 x8_1).f1) && ((((rd_T23 l0 x9_2).f2).toList) == (((rd_T23 x7_2 x8_1).f2).toList)))) = true := c15
  (try (have c15b1 : decide (((rd_T23 l0 x9_2).f0) = ((rd_T23 x7_2 x8_1).f0) && (((rd_T23 l0 x9_2).f1) == ((rd_T23 x7_2 x8_1).f1) && ((((rd_T23 l0 x9_2).f2).toList) == (((rd_T23 x7_2 x8_1).f2).toList)))) = true := by simpa using c15))
  (try (have c15b2 : (((rd_T23 l0 x9_2).f0) == ((rd_T23 x7_2 x8_1).f0) && (((rd_T23 l0 x9_2).f1) == ((rd_T23 x7_2 x8_1).f1) && ((((rd_T23 l0 x9_2).f2).toList) == (((rd_T23 x7_2 x8_1).f2).toList)))) = true := by simpa using c15))
  clear c15
  by_cases c16 : x9_2 < (l1.length : Int)
  rotate_left
  · rw [if_neg c16] at H
    exact absurd H (by simp)
  rw [if_pos c16] at H
  have c16b0 : decide (x9_2 < (l1.length : Int)) = true := decide_eq_true c16
  clear c16
  replace H := Option.bind_eq_some_iff.mp H
  obtain ⟨t510, A170, H⟩ := H
  replace H : (hearsayref02_Class.j2 k2 l0 l1 x7_2 x8_1 x9_2 (!t510)) = some r := H
  have A17 := Aside0.mk A170
  clear A170
  have H' := Aside0.mk H
  clear H
  try go_wp2
  have n0_ := Aside0.mk (qy HO_7.out)
  have n1_ := Aside0.mk (qb BK503.out)
  have n2_ := Aside0.mk (qe HB.out)
  clear HO_7
  clear BK503
  clear HB
  have HO_7 := n0_
  have BK503 := n1_
  have HB := n2_
  clear n0_ n1_ n2_
  have p507 : 0 ≤ (x9_2 : Int) := of_decide_eq_true (by first | (with_reducible assumption) | assumption)
  have q507 : x9_2 < (l0.length : Int) := of_decide_eq_true (by first | (with_reducible assumption) | assumption)
  obtain ⟨ad507, e507, hx507_0, hx507_1, hx507_2⟩ := at_T23 HR0.out x9_2 p507 q507
  have hw507_2 := hx507_2
  have hw507_1 := hx507_1
  have hw507_0 := hx507_0
  cases e507
  replace hx507_0 := (HB.out.cell (ql w _ hx507_0)).trans hx507_0
  replace hx507_1 := (HB.out.cell (ql w _ hx507_1)).trans hx507_1
  replace hx507_2 := (HB.out.cell (ql w _ hx507_2)).trans hx507_2
  replace p507 := eq_true p507
  replace q507 := eq_true q507
  obtain ⟨Ao19, co19, eo19⟩ := Kd.R_slice HO_7.out
  (first | subst eo19 | (injection eo19 with f1_ f2_ f3_; have f4_ := f1_.symm; have f5_ := f3_.symm; clear f1_ f2_ f3_; subst f4_; subst f5_))
  have p508 : 0 ≤ (x8_1 : Int) := of_decide_eq_true (by first | (with_reducible assumption) | assumption)
  have q508 : x8_1 < (x7_2.length : Int) := of_decide_eq_true (by first | (with_reducible assumption) | assumption)
  obtain ⟨ad508, e508, hx508_0, hx508_1, hx508_2⟩ := at_T23 (Kd.R_reads' HO_7.out).2.2 x8_1 p508 q508
  cases e508
  replace p508 := eq_true p508
  replace q508 := eq_true q508
  have p509 : 0 ≤ (x9_2 : Int) := of_decide_eq_true (by first | (with_reducible assumption) | assumption)
  have q509 : x9_2 < (l1.length : Int) := of_decide_eq_true (by first | (with_reducible assumption) | assumption)
  obtain ⟨ad509, e509, hx509_0, hx509_1, hx509_2⟩ := at_T23 HR1.out x9_2 p509 q509
  have hw509_2 := hx509_2
  have hw509_1 := hx509_1
  have hw509_0 := hx509_0
  cases e509
  replace hx509_0 := (HB.out.cell (ql w _ hx509_0)).trans hx509_0
  replace hx509_1 := (HB.out.cell (ql w _ hx509_1)).trans hx509_1
  replace hx509_2 := (HB.out.cell (ql w _ hx509_2)).trans hx509_2
  replace p509 := eq_true p509
  replace q509 := eq_true q509
  refine start_ (n := 18) (S := fun w' => w'.cell? (ad507.add ((x9_2).toNat * 3)) = some (.int .i64 ((rd_T23 l0 x9_2).f0)) ∧ w'.cell? ⟨(ad507.add ((x9_2).toNat * 3)).block, (ad507.add ((x9_2).toNat * 3)).off + 1, none⟩ = some (.int .i64 ((rd_T23 l0 x9_2).f1)) ∧ w'.cell? ⟨(ad507.add ((x9_2).toNat * 3)).block, (ad507.add ((x9_2).toNat * 3)).off + 2, none⟩ = some (.string ((rd_T23 l0 x9_2).f2)) ∧ w'.cell? (ad508.add ((x8_1).toNat * 3)) = some (.int .i64 ((rd_T23 x7_2 x8_1).f0)) ∧ w'.cell? ⟨(ad508.add ((x8_1).toNat * 3)).block, (ad508.add ((x8_1).toNat * 3)).off + 1, none⟩ = some (.int .i64 ((rd_T23 x7_2 x8_1).f1)) ∧ w'.cell? ⟨(ad508.add ((x8_1).toNat * 3)).block, (ad508.add ((x8_1).toNat * 3)).off + 2, none⟩ = some (.string ((rd_T23 x7_2 x8_1).f2)) ∧ w'.cell? (ad509.add ((x9_2).toNat * 3)) = some (.int .i64 ((rd_T23 l1 x9_2).f0)) ∧ w'.cell? ⟨(ad509.add ((x9_2).toNat * 3)).block, (ad509.add ((x9_2).toNat * 3)).off + 1, none⟩ = some (.int .i64 ((rd_T23 l1 x9_2).f1)) ∧ w'.cell? ⟨(ad509.add ((x9_2).toNat * 3)).block, (ad509.add ((x9_2).toNat * 3)).off + 2, none⟩ = some (.string ((rd_T23 l1 x9_2).f2))) (ds := []) #[false, false, false, false, false, false, false, false, false, false, false, false, false, false, false, false, false, false] (by kernel_rfl) rfl rfl ⟨((HB.out.cell (ql w _ hw507_0)).trans hw507_0), ((HB.out.cell (ql w _ hw507_1)).trans hw507_1), ((HB.out.cell (ql w _ hw507_2)).trans hw507_2), hx508_0, hx508_1, hx508_2, ((HB.out.cell (ql w _ hw509_0)).trans hw509_0), ((HB.out.cell (ql w _ hw509_1)).trans hw509_1), ((HB.out.cell (ql w _ hw509_2)).trans hw509_2)⟩ (fun hHeld => ?_); refine with_tabW hearsayref02_Class.tab8 hearsayref02_Class.bits8 (fun HT_ HW_ => ?_)
  generalize wr.drew = w18 at HO_7 BK503 HB hx507_0 hx507_1 hx507_2 hx508_0 hx508_1 hx508_2 hx509_0 hx509_1 hx509_2 hHeld ⊢
  refine pure_ (i := 0) (N := some 24) (v := ?_) (a' := ?_) #[true, false, false, false, false, false, false, false, false, false, false, false, false, false, false, false, false, false] rfl rfl (any_of HT_.out (by kernel_rfl)) (fun _ _ _ h => h) (Or.inl ⟨by rfl, ?_⟩) ?_ ?_
  rotate_left
  · intro w'
    go_simp
    with_reducible rfl
  rotate_left
  · simp only [Act.put, List.setIfInBounds_toArray, List.set_cons_zero, List.set_cons_succ, i64_w, i32_w]
    rfl
  refine pure_ (i := 1) (N := some 25) (v := ?_) (a' := ?_) #[true, true, false, false, false, false, false, false, false, false, false, false, false, false, false, false, false, false] rfl rfl (any_of HT_.out (by kernel_rfl)) (fun _ _ _ h => h) (Or.inl ⟨by rfl, ?_⟩) ?_ ?_
  rotate_left
  · intro w'
    go_simp
    with_reducible rfl
  rotate_left
  · simp only [Act.put, List.setIfInBounds_toArray, List.set_cons_zero, List.set_cons_succ, i64_w, i32_w]
    rfl
  refine pure_ (i := 2) (N := some 26) (v := ?_) (a' := ?_) #[true, true, true, false, false, false, false, false, false, false, false, false, false, false, false, false, false, false] rfl rfl (any_of HT_.out (by kernel_rfl)) (fun _ _ _ h => h) (Or.inl ⟨by rfl, ?_⟩) ?_ ?_
  rotate_left
  · intro w'
    go_simp
    with_reducible rfl
  rotate_left
  · simp only [Act.put, List.setIfInBounds_toArray, List.set_cons_zero, List.set_cons_succ, i64_w, i32_w]
    rfl
  refine pure_ (i := 4) (N := some 28) (v := ?_) (a' := ?_) #[true, true, true, false, true, false, false, false, false, false, false, false, false, false, false, false, false, false] rfl rfl (any_of HT_.out (by kernel_rfl)) (fun _ _ _ h => h) (Or.inl ⟨by rfl, ?_⟩) ?_ ?_
  rotate_left
  · intro w'
    go_simp
    with_reducible rfl
  rotate_left
  · simp only [Act.put, List.setIfInBounds_toArray, List.set_cons_zero, List.set_cons_succ, i64_w, i32_w]
    rfl
  refine pure_ (i := 5) (N := some 29) (v := ?_) (a' := ?_) #[true, true, true, false, true, true, false, false, false, false, false, false, false, false, false, false, false, false] rfl rfl (any_of HT_.out (by kernel_rfl)) (fun _ _ _ h => h) (Or.inl ⟨by rfl, ?_⟩) ?_ ?_
  rotate_left
  · intro w'
    go_simp
    with_reducible rfl
  rotate_left
  · simp only [Act.put, List.setIfInBounds_toArray, List.set_cons_zero, List.set_cons_succ, i64_w, i32_w]
    rfl
  refine pure_ (i := 6) (N := some 30) (v := ?_) (a' := ?_) #[true, true, true, false, true, true, true, false, false, false, false, false, false, false, false, false, false, false] rfl rfl (any_of HT_.out (by kernel_rfl)) (fun _ _ _ h => h) (Or.inl ⟨by rfl, ?_⟩) ?_ ?_
  rotate_left
  · intro w'
    go_simp
    with_reducible rfl
  rotate_left
  · simp only [Act.put, List.setIfInBounds_toArray, List.set_cons_zero, List.set_cons_succ, i64_w, i32_w]
    rfl
  refine take_ (i := 3) (N := some 27) (v := ?_) (a' := ?_) #[true, true, true, true, true, true, true, false, false, false, false, false, false, false, false, false, false, false] rfl rfl (take_ofW HT_.out HW_.out (by kernel_rfl)) (fun _ _ _ h => h) (Or.inl ⟨by rfl, ?_⟩) hHeld ?_ ?_
  rotate_left
  · rintro w' ⟨s0, s1, s2, s3, s4, s5, s6, s7, s8⟩
    go_simp
    with_reducible rfl
  rotate_left
  · simp only [Act.put, List.setIfInBounds_toArray, List.set_cons_zero, List.set_cons_succ, i64_w, i32_w]
    rfl
  refine take_ (i := 7) (N := some 31) (v := ?_) (a' := ?_) #[true, true, true, true, true, true, true, true, false, false, false, false, false, false, false, false, false, false] rfl rfl (take_ofW HT_.out HW_.out (by kernel_rfl)) (fun _ _ _ h => h) (Or.inl ⟨by rfl, ?_⟩) hHeld ?_ ?_
  rotate_left
  · rintro w' ⟨s0, s1, s2, s3, s4, s5, s6, s7, s8⟩
    go_simp
    with_reducible rfl
  rotate_left
  · simp only [Act.put, List.setIfInBounds_toArray, List.set_cons_zero, List.set_cons_succ, i64_w, i32_w]
    rfl
  refine pure_ (i := 8) (N := some 32) (v := ?_) (a' := ?_) #[true, true, true, true, true, true, true, true, true, false, false, false, false, false, false, false, false, false] rfl rfl (any_of HT_.out (by kernel_rfl)) (fun _ _ _ h => h) (Or.inl ⟨by rfl, ?_⟩) ?_ ?_
  rotate_left
  · intro w'
    go_simp
    with_reducible rfl
  rotate_left
  · simp only [Act.put, List.setIfInBounds_toArray, List.set_cons_zero, List.set_cons_succ, i64_w, i32_w]
    rfl
  refine pure_ (i := 9) (N := some 33) (v := ?_) (a' := ?_) #[true, true, true, true, true, true, true, true, true, true, false, false, false, false, false, false, false, false] rfl rfl (any_of HT_.out (by kernel_rfl)) (fun _ _ _ h => h) (Or.inl ⟨by rfl, ?_⟩) ?_ ?_
  rotate_left
  · intro w'
    go_simp
    with_reducible rfl
  rotate_left
  · simp only [Act.put, List.setIfInBounds_toArray, List.set_cons_zero, List.set_cons_succ, i64_w, i32_w]
    rfl
  refine pure_ (i := 10) (N := some 34) (v := ?_) (a' := ?_) #[true, true, true, true, true, true, true, true, true, true, true, false, false, false, false, false, false, false] rfl rfl (any_of HT_.out (by kernel_rfl)) (fun _ _ _ h => h) (Or.inl ⟨by rfl, ?_⟩) ?_ ?_
  rotate_left
  · intro w'
    go_simp
    with_reducible rfl
  rotate_left
  · simp only [Act.put, List.setIfInBounds_toArray, List.set_cons_zero, List.set_cons_succ, i64_w, i32_w]
    rfl
  refine pure_ (i := 11) (N := some 35) (v := ?_) (a' := ?_) #[true, true, true, true, true, true, true, true, true, true, true, true, false, false, false, false, false, false] rfl rfl (any_of HT_.out (by kernel_rfl)) (fun _ _ _ h => h) (Or.inl ⟨by rfl, ?_⟩) ?_ ?_
  rotate_left
  · intro w'
    go_simp
    with_reducible rfl
  rotate_left
  · simp only [Act.put, List.setIfInBounds_toArray, List.set_cons_zero, List.set_cons_succ, i64_w, i32_w]
    rfl
  refine pure_ (i := 12) (N := some 36) (v := ?_) (a' := ?_) #[true, true, true, true, true, true, true, true, true, true, true, true, true, false, false, false, false, false] rfl rfl (any_of HT_.out (by kernel_rfl)) (fun _ _ _ h => h) (Or.inl ⟨by rfl, ?_⟩) ?_ ?_
  rotate_left
  · intro w'
    go_simp
    with_reducible rfl
  rotate_left
  · simp only [Act.put, List.setIfInBounds_toArray, List.set_cons_zero, List.set_cons_succ, i64_w, i32_w]
    rfl
  refine pure_ (i := 13) (N := some 37) (v := ?_) (a' := ?_) #[true, true, true, true, true, true, true, true, true, true, true, true, true, true, false, false, false, false] rfl rfl (any_of HT_.out (by kernel_rfl)) (fun _ _ _ h => h) (Or.inl ⟨by rfl, ?_⟩) ?_ ?_
  rotate_left
  · intro w'
    go_simp
    with_reducible rfl
  rotate_left
  · simp only [Act.put, List.setIfInBounds_toArray, List.set_cons_zero, List.set_cons_succ, i64_w, i32_w]
    rfl
  refine take_ (i := 14) (N := some 38) (v := ?_) (a' := ?_) #[true, true, true, true, true, true, true, true, true, true, true, true, true, true, true, false, false, false] rfl rfl (take_ofW HT_.out HW_.out (by kernel_rfl)) (fun _ _ _ h => h) (Or.inl ⟨by rfl, ?_⟩) hHeld ?_ ?_
  rotate_left
  · rintro w' ⟨s0, s1, s2, s3, s4, s5, s6, s7, s8⟩
    go_simp
    with_reducible rfl
  rotate_left
  · simp only [Act.put, List.setIfInBounds_toArray, List.set_cons_zero, List.set_cons_succ, i64_w, i32_w]
    rfl
  refine one_ (i := 15) (N := some 39) #[true, true, true, true, true, true, true, true, true, true, true, true, true, true, true, true, false, false] rfl rfl (one_of HT_.out (by kernel_rfl)) (by decide) (fun K hK => ?_)
  refine goes_ Tryd.func84 (by kernel_rfl) rfl #[.slice (some ad508) x7_2.length co19, .agg #[.int .i64 ((rd_T23 l1 x9_2).f0), .int .i64 ((rd_T23 l1 x9_2).f1), .string ((rd_T23 l1 x9_2).f2)]] (by rfl) rfl rfl (by (try simp only [List.map_toArray, List.map_cons, List.map_nil]); first | done | rfl | (simp only [List.length_drop, List.length_take]; rfl)) ?_
  with_reducible refine (hearsayref02_holds.calls k2 _ _ x7_2 ((rd_T23 l1 x9_2).f0) ((rd_T23 l1 x9_2).f1) ((rd_T23 l1 x9_2).f2) t510 _ ?side1 ?side2 A17.out).mono ?_
  (case side1 => repeat (first | exact (Kd.R_reads' HO_7.out).2.2 | (with_reducible refine Kd.C_alloc ?_ _) | (with_reducible refine Kd.C_drewN ?_ _) | (with_reducible refine Kd.C_drew ?_)))
  (case side2 => exact (Kd.R_reads' HO_7.out).2.1)
  rintro e w20 ⟨rfl, hb⟩
  have HS3_ := (hb.cell (ql _ _ (hHeld.2.2.2.1))).trans (hHeld.2.2.2.1)
  have HS4_ := (hb.cell (ql _ _ (hHeld.2.2.2.2.1))).trans (hHeld.2.2.2.2.1)
  have HS5_ := (hb.cell (ql _ _ (hHeld.2.2.2.2.2.1))).trans (hHeld.2.2.2.2.2.1)
  refine ⟨_, rfl, ?_⟩
  have n0_ := Aside0.mk (Kd.R_below (by (with_reducible repeat (first | apply qz | apply qx | apply qy)); exact HO_7.out) hb)
  have n1_ := Aside0.mk (blk_below (g := gb503) (o := .cells #[.int .i64 a2_0, .int .i64 a2_1, .string a2_2] 23 (0, 0)) (by (with_reducible repeat (first | refine qa ?_ _ | refine qb ?_ | refine qc ?_ _)); exact BK503.out) hb)
  have n2_ := Aside0.mk (below_step (by repeat (first | (with_reducible first | exact HB.out | apply qf | apply qn | apply qe | refine qd ?_ GE503.out) | exact HB.out)) hb)
  clear HO_7
  clear BK503
  clear HB
  have HO_7 := n0_
  have BK503 := n1_
  have HB := n2_
  clear n0_ n1_ n2_
  (try clear hb)
  (try clear hb2)
  (try clear hk)
  (try clear hi)
  refine hK.out _ _ ⟨((HB.out.cell (ql w _ hw507_0)).trans hw507_0), ((HB.out.cell (ql w _ hw507_1)).trans hw507_1), ((HB.out.cell (ql w _ hw507_2)).trans hw507_2), HS3_, HS4_, HS5_, ((HB.out.cell (ql w _ hw509_0)).trans hw509_0), ((HB.out.cell (ql w _ hw509_1)).trans hw509_1), ((HB.out.cell (ql w _ hw509_2)).trans hw509_2)⟩ (fun hHeld => ?_)
  clear hK K
  refine norm_ (a' := ?_) ?_ ?_
  rotate_left
  · show Act.put _ (some 39) _ = _
    simp only [Act.put, List.setIfInBounds_toArray, List.set_cons_zero, List.set_cons_succ, i64_w, i32_w]
    rfl
  refine pure_ (i := 16) (N := some 40) (v := ?_) (a' := ?_) #[true, true, true, true, true, true, true, true, true, true, true, true, true, true, true, true, true, false] rfl rfl (any_of HT_.out (by kernel_rfl)) (fun _ _ _ h => h) (Or.inl ⟨by rfl, ?_⟩) ?_ ?_
  rotate_left
  · intro w'
    go_simp
    with_reducible rfl
  rotate_left
  · simp only [Act.put, List.setIfInBounds_toArray, List.set_cons_zero, List.set_cons_succ, i64_w, i32_w]
    rfl
  refine pure_ (i := 17) (N := some 41) (v := ?_) (a' := ?_) #[true, true, true, true, true, true, true, true, true, true, true, true, true, true, true, true, true, true] rfl rfl (any_of HT_.out (by kernel_rfl)) (fun _ _ _ h => h) (Or.inl ⟨by rfl, ?_⟩) ?_ ?_
  rotate_left
  · intro w'
    go_simp
    with_reducible rfl
  rotate_left
  · simp only [Act.put, List.setIfInBounds_toArray, List.set_cons_zero, List.set_cons_succ, i64_w, i32_w]
    rfl
  refine done_ (done_of HT_.out (by kernel_rfl)) ?_
  try go_wp2
  go_meet
  exact ⟨_, (!t510), (by first | rfl | (simp; done) | (simp [*]; done)), H', ⟨by have := HK1.out; have := HK2.out; first | omega | exact Nat.le_refl _⟩, ⟨by (with_reducible repeat (first | apply qz | apply qx | apply qy)); exact HO_7.out⟩, ⟨by (with_reducible repeat (first | refine qa ?_ _ | refine qb ?_ | refine qc ?_ _)); exact BK503.out⟩, ⟨by repeat (first | (with_reducible first | exact HB.out | apply qf | apply qn | apply qe | refine qd ?_ GE503.out) | exact HB.out)⟩⟩
 clear HC11
 obtain ⟨kq, x41_10, rfl, HA, HJ10, HO_7, BK503, HB⟩ := hcut
 rcases kq with _ | kj10
 · exact absurd HA.out (by simp [hearsayref02_Class.j2])
 have H := HA.out
 clear HA
 simp only [hearsayref02_Class.j2] at H
 by_cases c23 : x41_10 = true
 rotate_left
 ·
  replace c23 := Bool.eq_false_iff.mpr c23
  subst c23
  have H1 : (if 0 ≤ x9_2 then (if x9_2 < (l1.length : Int) then (if 0 ≤ x8_1 then (if x8_1 < (x7_2.length : Int) then (if (((rd_T23 l1 x9_2).f0) == ((rd_T23 x7_2 x8_1).f0) && (((rd_T23 l1 x9_2).f1) == ((rd_T23 x7_2 x8_1).f1) && ((((rd_T23 l1 x9_2).f2).toList) == (((rd_T23 x7_2 x8_1).f2).toList)))) = true then (if x9_2 < (l0.length : Int) then ((hearsayref02_holds.f kj10 x7_2 ((rd_T23 l0 x9_2).f0) ((rd_T23 l0 x9_2).f1) ((rd_T23 l0 x9_2).f2)).bind fun t526 => (if t526 = true then (hearsayref02_Class.l1 kj10 l0 l1 x7_2 x8_1 (wrap64 (x9_2 + 1))) else (if x7_2.length < 4398046511104 then (hearsayref02_Class.l1 kj10 l0 l1 (x7_2 ++ [(⟨(rd_T23 l0 x9_2).f0, (rd_T23 l0 x9_2).f1, (rd_T23 l0 x9_2).f2⟩ : S23)]) x8_1 (wrap64 (x9_2 + 1))) else (none)))) else (none)) else (hearsayref02_Class.l1 kj10 l0 l1 x7_2 x8_1 (wrap64 (x9_2 + 1)))) else (none)) else (none)) else (none)) else (none)) = some r := by rw [if_neg (show ¬ (false = true) by decide)] at H; exact H
  clear H
  have H := H1
  clear H1
  by_cases c46 : 0 ≤ x9_2
  rotate_left
  · rw [if_neg c46] at H
    exact absurd H (by simp)
  rw [if_pos c46] at H
  have c46b0 : decide (0 ≤ x9_2) = true := decide_eq_true c46
  clear c46
  by_cases c47 : x9_2 < (l1.length : Int)
  rotate_left
  · rw [if_neg c47] at H
    exact absurd H (by simp)
  rw [if_pos c47] at H
  have c47b0 : decide (x9_2 < (l1.length : Int)) = true := decide_eq_true c47
  clear c47
  by_cases c48 : 0 ≤ x8_1
  rotate_left
  · rw [if_neg c48] at H
    exact absurd H (by simp)
  rw [if_pos c48] at H
  have c48b0 : decide (0 ≤ x8_1) = true := decide_eq_true c48
  clear c48
  by_cases c49 : x8_1 < (x7_2.length : Int)
  rotate_left
  · rw [if_neg c49] at H
    exact absurd H (by simp)
  rw [if_pos c49] at H
  have c49b0 : decide (x8_1 < (x7_2.length : Int)) = true := decide_eq_true c49
  clear c49
  by_cases c50 : (((rd_T23 l1 x9_2).f0) == ((rd_T23 x7_2 x8_1).f0) && (((rd_T23 l1 x9_2).f1) == ((rd_T23 x7_2 x8_1).f1) && ((((rd_T23 l1 x9_2).f2).toList) == (((rd_T23 x7_2 x8_1).f2).toList)))) = true
  rotate_left
  ·
   rw [if_neg c50] at H
   have c50b0 : (((rd_T23 l1 x9_2).f0) == ((rd_T23 x7_2 x8_1).f0) && (((rd_T23 l1 x9_2).f1) == ((rd_T23 x7_2 x8_1).f1) && ((((rd_T23 l1 x9_2).f2).toList) == (((rd_T23 x7_2 x8_1).f2).toList)))) = false := by simpa using c50
   (try (have c50b1 : decide (((rd_T23 l1 x9_2).f0) = ((rd_T23 x7_2 x8_1).f0) && (((rd_T23 l1 x9_2).f1) == ((rd_T23 x7_2 x8_1).f1) && ((((rd_T23 l1 x9_2).f2).toList) == (((rd_T23 x7_2 x8_1).f2).toList)))) = false := by simpa using c50))
   (try (have c50b2 : (((rd_T23 l1 x9_2).f0) == ((rd_T23 x7_2 x8_1).f0) && (((rd_T23 l1 x9_2).f1) == ((rd_T23 x7_2 x8_1).f1) && ((((rd_T23 l1 x9_2).f2).toList) == (((rd_T23 x7_2 x8_1).f2).toList)))) = false := by simpa using c50))
   (try (have c50b3 : ¬ (((rd_T23 l1 x9_2).f0) = ((rd_T23 x7_2 x8_1).f0) && (((rd_T23 l1 x9_2).f1) == ((rd_T23 x7_2 x8_1).f1) && ((((rd_T23 l1 x9_2).f2).toList) == (((rd_T23 x7_2 x8_1).f2).toList)))) := by simpa using c50))
   clear c50
   have H' := Aside0.mk H
   clear H
   try go_wp2
   have n0_ := Aside0.mk (qy HO_7.out)
   have n1_ := Aside0.mk (qb BK503.out)
   have n2_ := Aside0.mk (qe HB.out)
   clear HO_7
   clear BK503
   clear HB
   have HO_7 := n0_
   have BK503 := n1_
   have HB := n2_
   clear n0_ n1_ n2_
   have p523 : 0 ≤ (x9_2 : Int) := of_decide_eq_true (by first | (with_reducible assumption) | assumption)
   have q523 : x9_2 < (l1.length : Int) := of_decide_eq_true (by first | (with_reducible assumption) | assumption)
   obtain ⟨ad523, e523, hx523_0, hx523_1, hx523_2⟩ := at_T23 HR1.out x9_2 p523 q523
   have hw523_2 := hx523_2
   have hw523_1 := hx523_1
   have hw523_0 := hx523_0
   cases e523
   replace hx523_0 := (HB.out.cell (ql w _ hx523_0)).trans hx523_0
   replace hx523_1 := (HB.out.cell (ql w _ hx523_1)).trans hx523_1
   replace hx523_2 := (HB.out.cell (ql w _ hx523_2)).trans hx523_2
   replace p523 := eq_true p523
   replace q523 := eq_true q523
   obtain ⟨Ao63, co63, eo63⟩ := Kd.R_slice HO_7.out
   (first | subst eo63 | (injection eo63 with f1_ f2_ f3_; have f4_ := f1_.symm; have f5_ := f3_.symm; clear f1_ f2_ f3_; subst f4_; subst f5_))
   have p524 : 0 ≤ (x8_1 : Int) := of_decide_eq_true (by first | (with_reducible assumption) | assumption)
   have q524 : x8_1 < (x7_2.length : Int) := of_decide_eq_true (by first | (with_reducible assumption) | assumption)
   obtain ⟨ad524, e524, hx524_0, hx524_1, hx524_2⟩ := at_T23 (Kd.R_reads' HO_7.out).2.2 x8_1 p524 q524
   cases e524
   replace p524 := eq_true p524
   replace q524 := eq_true q524
   refine start_ (n := 18) (S := fun w' => w'.cell? (ad523.add ((x9_2).toNat * 3)) = some (.int .i64 ((rd_T23 l1 x9_2).f0)) ∧ w'.cell? ⟨(ad523.add ((x9_2).toNat * 3)).block, (ad523.add ((x9_2).toNat * 3)).off + 1, none⟩ = some (.int .i64 ((rd_T23 l1 x9_2).f1)) ∧ w'.cell? ⟨(ad523.add ((x9_2).toNat * 3)).block, (ad523.add ((x9_2).toNat * 3)).off + 2, none⟩ = some (.string ((rd_T23 l1 x9_2).f2)) ∧ w'.cell? (ad524.add ((x8_1).toNat * 3)) = some (.int .i64 ((rd_T23 x7_2 x8_1).f0)) ∧ w'.cell? ⟨(ad524.add ((x8_1).toNat * 3)).block, (ad524.add ((x8_1).toNat * 3)).off + 1, none⟩ = some (.int .i64 ((rd_T23 x7_2 x8_1).f1)) ∧ w'.cell? ⟨(ad524.add ((x8_1).toNat * 3)).block, (ad524.add ((x8_1).toNat * 3)).off + 2, none⟩ = some (.string ((rd_T23 x7_2 x8_1).f2))) (ds := []) #[false, false, false, false, false, false, false, false, false, false, false, false, false, false, false, false, false, false] (by kernel_rfl) rfl rfl ⟨((HB.out.cell (ql w _ hw523_0)).trans hw523_0), ((HB.out.cell (ql w _ hw523_1)).trans hw523_1), ((HB.out.cell (ql w _ hw523_2)).trans hw523_2), hx524_0, hx524_1, hx524_2⟩ (fun hHeld => ?_); refine with_tabW hearsayref02_Class.tab10 hearsayref02_Class.bits10 (fun HT_ HW_ => ?_)
   generalize wc.drew = w62 at HO_7 BK503 HB hx523_0 hx523_1 hx523_2 hx524_0 hx524_1 hx524_2 hHeld ⊢
   refine pure_ (i := 0) (N := some 49) (v := ?_) (a' := ?_) #[true, false, false, false, false, false, false, false, false, false, false, false, false, false, false, false, false, false] rfl rfl (any_of HT_.out (by kernel_rfl)) (fun _ _ _ h => h) (Or.inl ⟨by rfl, ?_⟩) ?_ ?_
   rotate_left
   · intro w'
     go_simp
     with_reducible rfl
   rotate_left
   · simp only [Act.put, List.setIfInBounds_toArray, List.set_cons_zero, List.set_cons_succ, i64_w, i32_w]
     rfl
   refine pure_ (i := 1) (N := some 50) (v := ?_) (a' := ?_) #[true, true, false, false, false, false, false, false, false, false, false, false, false, false, false, false, false, false] rfl rfl (any_of HT_.out (by kernel_rfl)) (fun _ _ _ h => h) (Or.inl ⟨by rfl, ?_⟩) ?_ ?_
   rotate_left
   · intro w'
     go_simp
     with_reducible rfl
   rotate_left
   · simp only [Act.put, List.setIfInBounds_toArray, List.set_cons_zero, List.set_cons_succ, i64_w, i32_w]
     rfl
   refine pure_ (i := 2) (N := some 51) (v := ?_) (a' := ?_) #[true, true, true, false, false, false, false, false, false, false, false, false, false, false, false, false, false, false] rfl rfl (any_of HT_.out (by kernel_rfl)) (fun _ _ _ h => h) (Or.inl ⟨by rfl, ?_⟩) ?_ ?_
   rotate_left
   · intro w'
     go_simp
     with_reducible rfl
   rotate_left
   · simp only [Act.put, List.setIfInBounds_toArray, List.set_cons_zero, List.set_cons_succ, i64_w, i32_w]
     rfl
   refine pure_ (i := 4) (N := some 53) (v := ?_) (a' := ?_) #[true, true, true, false, true, false, false, false, false, false, false, false, false, false, false, false, false, false] rfl rfl (any_of HT_.out (by kernel_rfl)) (fun _ _ _ h => h) (Or.inl ⟨by rfl, ?_⟩) ?_ ?_
   rotate_left
   · intro w'
     go_simp
     with_reducible rfl
   rotate_left
   · simp only [Act.put, List.setIfInBounds_toArray, List.set_cons_zero, List.set_cons_succ, i64_w, i32_w]
     rfl
   refine pure_ (i := 5) (N := some 54) (v := ?_) (a' := ?_) #[true, true, true, false, true, true, false, false, false, false, false, false, false, false, false, false, false, false] rfl rfl (any_of HT_.out (by kernel_rfl)) (fun _ _ _ h => h) (Or.inl ⟨by rfl, ?_⟩) ?_ ?_
   rotate_left
   · intro w'
     go_simp
     with_reducible rfl
   rotate_left
   · simp only [Act.put, List.setIfInBounds_toArray, List.set_cons_zero, List.set_cons_succ, i64_w, i32_w]
     rfl
   refine pure_ (i := 6) (N := some 55) (v := ?_) (a' := ?_) #[true, true, true, false, true, true, true, false, false, false, false, false, false, false, false, false, false, false] rfl rfl (any_of HT_.out (by kernel_rfl)) (fun _ _ _ h => h) (Or.inl ⟨by rfl, ?_⟩) ?_ ?_
   rotate_left
   · intro w'
     go_simp
     with_reducible rfl
   rotate_left
   · simp only [Act.put, List.setIfInBounds_toArray, List.set_cons_zero, List.set_cons_succ, i64_w, i32_w]
     rfl
   refine take_ (i := 3) (N := some 52) (v := ?_) (a' := ?_) #[true, true, true, true, true, true, true, false, false, false, false, false, false, false, false, false, false, false] rfl rfl (take_ofW HT_.out HW_.out (by kernel_rfl)) (fun _ _ _ h => h) (Or.inl ⟨by rfl, ?_⟩) hHeld ?_ ?_
   rotate_left
   · rintro w' ⟨s0, s1, s2, s3, s4, s5⟩
     go_simp
     with_reducible rfl
   rotate_left
   · simp only [Act.put, List.setIfInBounds_toArray, List.set_cons_zero, List.set_cons_succ, i64_w, i32_w]
     rfl
   refine take_ (i := 7) (N := some 56) (v := ?_) (a' := ?_) #[true, true, true, true, true, true, true, true, false, false, false, false, false, false, false, false, false, false] rfl rfl (take_ofW HT_.out HW_.out (by kernel_rfl)) (fun _ _ _ h => h) (Or.inl ⟨by rfl, ?_⟩) hHeld ?_ ?_
   rotate_left
   · rintro w' ⟨s0, s1, s2, s3, s4, s5⟩
     go_simp
     with_reducible rfl
   rotate_left
   · simp only [Act.put, List.setIfInBounds_toArray, List.set_cons_zero, List.set_cons_succ, i64_w, i32_w]
     rfl
   refine pure_ (i := 8) (N := some 57) (v := ?_) (a' := ?_) #[true, true, true, true, true, true, true, true, true, false, false, false, false, false, false, false, false, false] rfl rfl (any_of HT_.out (by kernel_rfl)) (fun _ _ _ h => h) (Or.inl ⟨by rfl, ?_⟩) ?_ ?_
   rotate_left
   · intro w'
     go_simp
     with_reducible rfl
   rotate_left
   · simp only [Act.put, List.setIfInBounds_toArray, List.set_cons_zero, List.set_cons_succ, i64_w, i32_w]
     rfl
   refine pure_ (i := 9) (N := some 58) (v := ?_) (a' := ?_) #[true, true, true, true, true, true, true, true, true, true, false, false, false, false, false, false, false, false] rfl rfl (any_of HT_.out (by kernel_rfl)) (fun _ _ _ h => h) (Or.inl ⟨by rfl, ?_⟩) ?_ ?_
   rotate_left
   · intro w'
     go_simp
     with_reducible rfl
   rotate_left
   · simp only [Act.put, List.setIfInBounds_toArray, List.set_cons_zero, List.set_cons_succ, i64_w, i32_w]
     rfl
   refine pure_ (i := 10) (N := some 59) (v := undef) (a' := ?_) #[true, true, true, true, true, true, true, true, true, true, true, false, false, false, false, false, false, false] rfl rfl (any_of HT_.out (by kernel_rfl)) (fun _ _ _ h => h) (Or.inr ⟨by rfl, rfl⟩) ?_ ?_
   rotate_left
   · simp only [Act.put, List.setIfInBounds_toArray, List.set_cons_zero, List.set_cons_succ, i64_w, i32_w]
     rfl
   refine pure_ (i := 11) (N := some 60) (v := undef) (a' := ?_) #[true, true, true, true, true, true, true, true, true, true, true, true, false, false, false, false, false, false] rfl rfl (any_of HT_.out (by kernel_rfl)) (fun _ _ _ h => h) (Or.inr ⟨by rfl, rfl⟩) ?_ ?_
   rotate_left
   · simp only [Act.put, List.setIfInBounds_toArray, List.set_cons_zero, List.set_cons_succ, i64_w, i32_w]
     rfl
   refine pure_ (i := 12) (N := some 61) (v := undef) (a' := ?_) #[true, true, true, true, true, true, true, true, true, true, true, true, true, false, false, false, false, false] rfl rfl (any_of HT_.out (by kernel_rfl)) (fun _ _ _ h => h) (Or.inr ⟨by rfl, rfl⟩) ?_ ?_
   rotate_left
   · simp only [Act.put, List.setIfInBounds_toArray, List.set_cons_zero, List.set_cons_succ, i64_w, i32_w]
     rfl
   refine pure_ (i := 13) (N := some 62) (v := undef) (a' := ?_) #[true, true, true, true, true, true, true, true, true, true, true, true, true, true, false, false, false, false] rfl rfl (any_of HT_.out (by kernel_rfl)) (fun _ _ _ h => h) (Or.inr ⟨by rfl, rfl⟩) ?_ ?_
   rotate_left
   · simp only [Act.put, List.setIfInBounds_toArray, List.set_cons_zero, List.set_cons_succ, i64_w, i32_w]
     rfl
   refine pure_ (i := 14) (N := some 63) (v := undef) (a' := ?_) #[true, true, true, true, true, true, true, true, true, true, true, true, true, true, true, false, false, false] rfl rfl (any_of HT_.out (by kernel_rfl)) (fun _ _ _ h => h) (Or.inr ⟨by rfl, rfl⟩) ?_ ?_
   rotate_left
   · simp only [Act.put, List.setIfInBounds_toArray, List.set_cons_zero, List.set_cons_succ, i64_w, i32_w]
     rfl
   refine pure_ (i := 15) (N := some 64) (v := undef) (a' := ?_) #[true, true, true, true, true, true, true, true, true, true, true, true, true, true, true, true, false, false] rfl rfl (any_of HT_.out (by kernel_rfl)) (fun _ _ _ h => h) (Or.inr ⟨by rfl, rfl⟩) ?_ ?_
   rotate_left
   · simp only [Act.put, List.setIfInBounds_toArray, List.set_cons_zero, List.set_cons_succ, i64_w, i32_w]
     rfl
   refine pure_ (i := 16) (N := some 65) (v := undef) (a' := ?_) #[true, true, true, true, true, true, true, true, true, true, true, true, true, true, true, true, true, false] rfl rfl (any_of HT_.out (by kernel_rfl)) (fun _ _ _ h => h) (Or.inr ⟨by rfl, rfl⟩) ?_ ?_
   rotate_left
   · simp only [Act.put, List.setIfInBounds_toArray, List.set_cons_zero, List.set_cons_succ, i64_w, i32_w]
     rfl
   refine pure_ (i := 17) (N := some 66) (v := ?_) (a' := ?_) #[true, true, true, true, true, true, true, true, true, true, true, true, true, true, true, true, true, true] rfl rfl (any_of HT_.out (by kernel_rfl)) (fun _ _ _ h => h) (Or.inl ⟨by rfl, ?_⟩) ?_ ?_
   rotate_left
   · intro w'
     go_simp
     with_reducible rfl
   rotate_left
   · simp only [Act.put, List.setIfInBounds_toArray, List.set_cons_zero, List.set_cons_succ, i64_w, i32_w]
     rfl
   refine done_ (done_of HT_.out (by kernel_rfl)) ?_
   try go_wp2
   go_roundg kj10
   case measure => have := HK1.out; have := HK2.out; have := HJ10.out; omega
   exact ⟨(x7_2), (wrap64 (x9_2 + 1)), (by first | rfl | (simp; done) | (simp [*]; done)), H', ⟨by have := HK1.out; have := HK2.out; have := HJ10.out; omega⟩, ⟨by (with_reducible repeat (first | apply qz | apply qx | apply qy)); exact HO_7.out⟩, ⟨by (with_reducible repeat (first | refine qa ?_ _ | refine qb ?_ | refine qc ?_ _)); exact BK503.out⟩, ⟨by repeat (first | (with_reducible first | exact HB.out | apply qf | apply qn | apply qe | refine qd ?_ GE503.out) | exact HB.out)⟩⟩
  rw [if_pos c50] at H
  have c50b0 : (((rd_T23 l1 x9_2).f0) == ((rd_T23 x7_2 x8_1).f0) && (((rd_T23 l1 x9_2).f1) == ((rd_T23 x7_2 x8_1).f1) && ((((rd_T23 l1 x9_2).f2).toList) == (((rd_T23 x7_2 x8_1).f2).toList)))) = true := c50
  (try (have c50b1 : decide (((rd_T23 l1 x9_2).f0) = ((rd_T23 x7_2 x8_1).f0) && (((rd_T23 l1 x9_2).f1) == ((rd_T23 x7_2 x8_1).f1) && ((((rd_T23 l1 x9_2).f2).toList) == (((rd_T23 x7_2 x8_1).f2).toList)))) = true := by simpa using c50))
  (try (have c50b2 : (((rd_T23 l1 x9_2).f0) == ((rd_T23 x7_2 x8_1).f0) && (((rd_T23 l1 x9_2).f1) == ((rd_T23 x7_2 x8_1).f1) && ((((rd_T23 l1 x9_2).f2).toList) == (((rd_T23 x7_2 x8_1).f2).toList)))) = true := by simpa using c50))
  clear c50
  by_cases c51 : x9_2 < (l0.length : Int)
  rotate_left
  · rw [if_neg c51] at H
    exact absurd H (by simp)
  rw [if_pos c51] at H
  have c51b0 : decide (x9_2 < (l0.length : Int)) = true := decide_eq_true c51
  clear c51
  replace H := Option.bind_eq_some_iff.mp H
  obtain ⟨t526, A520, H⟩ := H
  replace H : (if t526 = true then (hearsayref02_Class.l1 kj10 l0 l1 x7_2 x8_1 (wrap64 (x9_2 + 1))) else (if x7_2.length < 4398046511104 then (hearsayref02_Class.l1 kj10 l0 l1 (x7_2 ++ [(⟨(rd_T23 l0 x9_2).f0, (rd_T23 l0 x9_2).f1, (rd_T23 l0 x9_2).f2⟩ : S23)]) x8_1 (wrap64 (x9_2 + 1))) else (none))) = some r := H
  have A52 := Aside0.mk A520
  clear A520
  by_cases c53 : t526 = true
  ·
   subst c53
   have H1 : (hearsayref02_Class.l1 kj10 l0 l1 x7_2 x8_1 (wrap64 (x9_2 + 1))) = some r := by rw [if_pos rfl] at H; exact H
   clear H
   have H := H1
   clear H1
   have H' := Aside0.mk H
   clear H
   try go_wp2
   have n0_ := Aside0.mk (qy HO_7.out)
   have n1_ := Aside0.mk (qb BK503.out)
   have n2_ := Aside0.mk (qe HB.out)
   clear HO_7
   clear BK503
   clear HB
   have HO_7 := n0_
   have BK503 := n1_
   have HB := n2_
   clear n0_ n1_ n2_
   have p523 : 0 ≤ (x9_2 : Int) := of_decide_eq_true (by first | (with_reducible assumption) | assumption)
   have q523 : x9_2 < (l1.length : Int) := of_decide_eq_true (by first | (with_reducible assumption) | assumption)
   obtain ⟨ad523, e523, hx523_0, hx523_1, hx523_2⟩ := at_T23 HR1.out x9_2 p523 q523
   have hw523_2 := hx523_2
   have hw523_1 := hx523_1
   have hw523_0 := hx523_0
   cases e523
   replace hx523_0 := (HB.out.cell (ql w _ hx523_0)).trans hx523_0
   replace hx523_1 := (HB.out.cell (ql w _ hx523_1)).trans hx523_1
   replace hx523_2 := (HB.out.cell (ql w _ hx523_2)).trans hx523_2
   replace p523 := eq_true p523
   replace q523 := eq_true q523
   obtain ⟨Ao55, co55, eo55⟩ := Kd.R_slice HO_7.out
   (first | subst eo55 | (injection eo55 with f1_ f2_ f3_; have f4_ := f1_.symm; have f5_ := f3_.symm; clear f1_ f2_ f3_; subst f4_; subst f5_))
   have p524 : 0 ≤ (x8_1 : Int) := of_decide_eq_true (by first | (with_reducible assumption) | assumption)
   have q524 : x8_1 < (x7_2.length : Int) := of_decide_eq_true (by first | (with_reducible assumption) | assumption)
   obtain ⟨ad524, e524, hx524_0, hx524_1, hx524_2⟩ := at_T23 (Kd.R_reads' HO_7.out).2.2 x8_1 p524 q524
   cases e524
   replace p524 := eq_true p524
   replace q524 := eq_true q524
   have p525 : 0 ≤ (x9_2 : Int) := of_decide_eq_true (by first | (with_reducible assumption) | assumption)
   have q525 : x9_2 < (l0.length : Int) := of_decide_eq_true (by first | (with_reducible assumption) | assumption)
   obtain ⟨ad525, e525, hx525_0, hx525_1, hx525_2⟩ := at_T23 HR0.out x9_2 p525 q525
   have hw525_2 := hx525_2
   have hw525_1 := hx525_1
   have hw525_0 := hx525_0
   cases e525
   replace hx525_0 := (HB.out.cell (ql w _ hx525_0)).trans hx525_0
   replace hx525_1 := (HB.out.cell (ql w _ hx525_1)).trans hx525_1
   replace hx525_2 := (HB.out.cell (ql w _ hx525_2)).trans hx525_2
   replace p525 := eq_true p525
   replace q525 := eq_true q525
   refine start_ (n := 18) (S := fun w' => w'.cell? (ad523.add ((x9_2).toNat * 3)) = some (.int .i64 ((rd_T23 l1 x9_2).f0)) ∧ w'.cell? ⟨(ad523.add ((x9_2).toNat * 3)).block, (ad523.add ((x9_2).toNat * 3)).off + 1, none⟩ = some (.int .i64 ((rd_T23 l1 x9_2).f1)) ∧ w'.cell? ⟨(ad523.add ((x9_2).toNat * 3)).block, (ad523.add ((x9_2).toNat * 3)).off + 2, none⟩ = some (.string ((rd_T23 l1 x9_2).f2)) ∧ w'.cell? (ad524.add ((x8_1).toNat * 3)) = some (.int .i64 ((rd_T23 x7_2 x8_1).f0)) ∧ w'.cell? ⟨(ad524.add ((x8_1).toNat * 3)).block, (ad524.add ((x8_1).toNat * 3)).off + 1, none⟩ = some (.int .i64 ((rd_T23 x7_2 x8_1).f1)) ∧ w'.cell? ⟨(ad524.add ((x8_1).toNat * 3)).block, (ad524.add ((x8_1).toNat * 3)).off + 2, none⟩ = some (.string ((rd_T23 x7_2 x8_1).f2)) ∧ w'.cell? (ad525.add ((x9_2).toNat * 3)) = some (.int .i64 ((rd_T23 l0 x9_2).f0)) ∧ w'.cell? ⟨(ad525.add ((x9_2).toNat * 3)).block, (ad525.add ((x9_2).toNat * 3)).off + 1, none⟩ = some (.int .i64 ((rd_T23 l0 x9_2).f1)) ∧ w'.cell? ⟨(ad525.add ((x9_2).toNat * 3)).block, (ad525.add ((x9_2).toNat * 3)).off + 2, none⟩ = some (.string ((rd_T23 l0 x9_2).f2))) (ds := []) #[false, false, false, false, false, false, false, false, false, false, false, false, false, false, false, false, false, false] (by kernel_rfl) rfl rfl ⟨((HB.out.cell (ql w _ hw523_0)).trans hw523_0), ((HB.out.cell (ql w _ hw523_1)).trans hw523_1), ((HB.out.cell (ql w _ hw523_2)).trans hw523_2), hx524_0, hx524_1, hx524_2, ((HB.out.cell (ql w _ hw525_0)).trans hw525_0), ((HB.out.cell (ql w _ hw525_1)).trans hw525_1), ((HB.out.cell (ql w _ hw525_2)).trans hw525_2)⟩ (fun hHeld => ?_); refine with_tabW hearsayref02_Class.tab10 hearsayref02_Class.bits10 (fun HT_ HW_ => ?_)
   generalize wc.drew = w54 at HO_7 BK503 HB hx523_0 hx523_1 hx523_2 hx524_0 hx524_1 hx524_2 hx525_0 hx525_1 hx525_2 hHeld ⊢
   refine pure_ (i := 0) (N := some 49) (v := ?_) (a' := ?_) #[true, false, false, false, false, false, false, false, false, false, false, false, false, false, false, false, false, false] rfl rfl (any_of HT_.out (by kernel_rfl)) (fun _ _ _ h => h) (Or.inl ⟨by rfl, ?_⟩) ?_ ?_
   rotate_left
   · intro w'
     go_simp
     with_reducible rfl
   rotate_left
   · simp only [Act.put, List.setIfInBounds_toArray, List.set_cons_zero, List.set_cons_succ, i64_w, i32_w]
     rfl
   refine pure_ (i := 1) (N := some 50) (v := ?_) (a' := ?_) #[true, true, false, false, false, false, false, false, false, false, false, false, false, false, false, false, false, false] rfl rfl (any_of HT_.out (by kernel_rfl)) (fun _ _ _ h => h) (Or.inl ⟨by rfl, ?_⟩) ?_ ?_
   rotate_left
   · intro w'
     go_simp
     with_reducible rfl
   rotate_left
   · simp only [Act.put, List.setIfInBounds_toArray, List.set_cons_zero, List.set_cons_succ, i64_w, i32_w]
     rfl
   refine pure_ (i := 2) (N := some 51) (v := ?_) (a' := ?_) #[true, true, true, false, false, false, false, false, false, false, false, false, false, false, false, false, false, false] rfl rfl (any_of HT_.out (by kernel_rfl)) (fun _ _ _ h => h) (Or.inl ⟨by rfl, ?_⟩) ?_ ?_
   rotate_left
   · intro w'
     go_simp
     with_reducible rfl
   rotate_left
   · simp only [Act.put, List.setIfInBounds_toArray, List.set_cons_zero, List.set_cons_succ, i64_w, i32_w]
     rfl
   refine pure_ (i := 4) (N := some 53) (v := ?_) (a' := ?_) #[true, true, true, false, true, false, false, false, false, false, false, false, false, false, false, false, false, false] rfl rfl (any_of HT_.out (by kernel_rfl)) (fun _ _ _ h => h) (Or.inl ⟨by rfl, ?_⟩) ?_ ?_
   rotate_left
   · intro w'
     go_simp
     with_reducible rfl
   rotate_left
   · simp only [Act.put, List.setIfInBounds_toArray, List.set_cons_zero, List.set_cons_succ, i64_w, i32_w]
     rfl
   refine pure_ (i := 5) (N := some 54) (v := ?_) (a' := ?_) #[true, true, true, false, true, true, false, false, false, false, false, false, false, false, false, false, false, false] rfl rfl (any_of HT_.out (by kernel_rfl)) (fun _ _ _ h => h) (Or.inl ⟨by rfl, ?_⟩) ?_ ?_
   rotate_left
   · intro w'
     go_simp
     with_reducible rfl
   rotate_left
   · simp only [Act.put, List.setIfInBounds_toArray, List.set_cons_zero, List.set_cons_succ, i64_w, i32_w]
     rfl
   refine pure_ (i := 6) (N := some 55) (v := ?_) (a' := ?_) #[true, true, true, false, true, true, true, false, false, false, false, false, false, false, false, false, false, false] rfl rfl (any_of HT_.out (by kernel_rfl)) (fun _ _ _ h => h) (Or.inl ⟨by rfl, ?_⟩) ?_ ?_
   rotate_left
   · intro w'
     go_simp
     with_reducible rfl
   rotate_left
   · simp only [Act.put, List.setIfInBounds_toArray, List.set_cons_zero, List.set_cons_succ, i64_w, i32_w]
     rfl
   refine take_ (i := 3) (N := some 52) (v := ?_) (a' := ?_) #[true, true, true, true, true, true, true, false, false, false, false, false, false, false, false, false, false, false] rfl rfl (take_ofW HT_.out HW_.out (by kernel_rfl)) (fun _ _ _ h => h) (Or.inl ⟨by rfl, ?_⟩) hHeld ?_ ?_
   rotate_left
   · rintro w' ⟨s0, s1, s2, s3, s4, s5, s6, s7, s8⟩
     go_simp
     with_reducible rfl
   rotate_left
   · simp only [Act.put, List.setIfInBounds_toArray, List.set_cons_zero, List.set_cons_succ, i64_w, i32_w]
     rfl
   refine take_ (i := 7) (N := some 56) (v := ?_) (a' := ?_) #[true, true, true, true, true, true, true, true, false, false, false, false, false, false, false, false, false, false] rfl rfl (take_ofW HT_.out HW_.out (by kernel_rfl)) (fun _ _ _ h => h) (Or.inl ⟨by rfl, ?_⟩) hHeld ?_ ?_
   rotate_left
   · rintro w' ⟨s0, s1, s2, s3, s4, s5, s6, s7, s8⟩
     go_simp
     with_reducible rfl
   rotate_left
   · simp only [Act.put, List.setIfInBounds_toArray, List.set_cons_zero, List.set_cons_succ, i64_w, i32_w]
     rfl
   refine pure_ (i := 8) (N := some 57) (v := ?_) (a' := ?_) #[true, true, true, true, true, true, true, true, true, false, false, false, false, false, false, false, false, false] rfl rfl (any_of HT_.out (by kernel_rfl)) (fun _ _ _ h => h) (Or.inl ⟨by rfl, ?_⟩) ?_ ?_
   rotate_left
   · intro w'
     go_simp
     with_reducible rfl
   rotate_left
   · simp only [Act.put, List.setIfInBounds_toArray, List.set_cons_zero, List.set_cons_succ, i64_w, i32_w]
     rfl
   refine pure_ (i := 9) (N := some 58) (v := ?_) (a' := ?_) #[true, true, true, true, true, true, true, true, true, true, false, false, false, false, false, false, false, false] rfl rfl (any_of HT_.out (by kernel_rfl)) (fun _ _ _ h => h) (Or.inl ⟨by rfl, ?_⟩) ?_ ?_
   rotate_left
   · intro w'
     go_simp
     with_reducible rfl
   rotate_left
   · simp only [Act.put, List.setIfInBounds_toArray, List.set_cons_zero, List.set_cons_succ, i64_w, i32_w]
     rfl
   refine pure_ (i := 10) (N := some 59) (v := ?_) (a' := ?_) #[true, true, true, true, true, true, true, true, true, true, true, false, false, false, false, false, false, false] rfl rfl (any_of HT_.out (by kernel_rfl)) (fun _ _ _ h => h) (Or.inl ⟨by rfl, ?_⟩) ?_ ?_
   rotate_left
   · intro w'
     go_simp
     with_reducible rfl
   rotate_left
   · simp only [Act.put, List.setIfInBounds_toArray, List.set_cons_zero, List.set_cons_succ, i64_w, i32_w]
     rfl
   refine pure_ (i := 11) (N := some 60) (v := ?_) (a' := ?_) #[true, true, true, true, true, true, true, true, true, true, true, true, false, false, false, false, false, false] rfl rfl (any_of HT_.out (by kernel_rfl)) (fun _ _ _ h => h) (Or.inl ⟨by rfl, ?_⟩) ?_ ?_
   rotate_left
   · intro w'
     go_simp
     with_reducible rfl
   rotate_left
   · simp only [Act.put, List.setIfInBounds_toArray, List.set_cons_zero, List.set_cons_succ, i64_w, i32_w]
     rfl
   refine pure_ (i := 12) (N := some 61) (v := ?_) (a' := ?_) #[true, true, true, true, true, true, true, true, true, true, true, true, true, false, false, false, false, false] rfl rfl (any_of HT_.out (by kernel_rfl)) (fun _ _ _ h => h) (Or.inl ⟨by rfl, ?_⟩) ?_ ?_
   rotate_left
   · intro w'
     go_simp
     with_reducible rfl
   rotate_left
   · simp only [Act.put, List.setIfInBounds_toArray, List.set_cons_zero, List.set_cons_succ, i64_w, i32_w]
     rfl
   refine pure_ (i := 13) (N := some 62) (v := ?_) (a' := ?_) #[true, true, true, true, true, true, true, true, true, true, true, true, true, true, false, false, false, false] rfl rfl (any_of HT_.out (by kernel_rfl)) (fun _ _ _ h => h) (Or.inl ⟨by rfl, ?_⟩) ?_ ?_
   rotate_left
   · intro w'
     go_simp
     with_reducible rfl
   rotate_left
   · simp only [Act.put, List.setIfInBounds_toArray, List.set_cons_zero, List.set_cons_succ, i64_w, i32_w]
     rfl
   refine take_ (i := 14) (N := some 63) (v := ?_) (a' := ?_) #[true, true, true, true, true, true, true, true, true, true, true, true, true, true, true, false, false, false] rfl rfl (take_ofW HT_.out HW_.out (by kernel_rfl)) (fun _ _ _ h => h) (Or.inl ⟨by rfl, ?_⟩) hHeld ?_ ?_
   rotate_left
   · rintro w' ⟨s0, s1, s2, s3, s4, s5, s6, s7, s8⟩
     go_simp
     with_reducible rfl
   rotate_left
   · simp only [Act.put, List.setIfInBounds_toArray, List.set_cons_zero, List.set_cons_succ, i64_w, i32_w]
     rfl
   refine one_ (i := 15) (N := some 64) #[true, true, true, true, true, true, true, true, true, true, true, true, true, true, true, true, false, false] rfl rfl (one_of HT_.out (by kernel_rfl)) (by decide) (fun K hK => ?_)
   refine goes_ Tryd.func84 (by kernel_rfl) rfl #[.slice (some ad524) x7_2.length co55, .agg #[.int .i64 ((rd_T23 l0 x9_2).f0), .int .i64 ((rd_T23 l0 x9_2).f1), .string ((rd_T23 l0 x9_2).f2)]] (by rfl) rfl rfl (by (try simp only [List.map_toArray, List.map_cons, List.map_nil]); first | done | rfl | (simp only [List.length_drop, List.length_take]; rfl)) ?_
   with_reducible refine (hearsayref02_holds.calls kj10 _ _ x7_2 ((rd_T23 l0 x9_2).f0) ((rd_T23 l0 x9_2).f1) ((rd_T23 l0 x9_2).f2) true _ ?side1 ?side2 A52.out).mono ?_
   (case side1 => repeat (first | exact (Kd.R_reads' HO_7.out).2.2 | (with_reducible refine Kd.C_alloc ?_ _) | (with_reducible refine Kd.C_drewN ?_ _) | (with_reducible refine Kd.C_drew ?_)))
   (case side2 => exact (Kd.R_reads' HO_7.out).2.1)
   rintro e w56 ⟨rfl, hb⟩
   have HS3_ := (hb.cell (ql _ _ (hHeld.2.2.2.1))).trans (hHeld.2.2.2.1)
   have HS4_ := (hb.cell (ql _ _ (hHeld.2.2.2.2.1))).trans (hHeld.2.2.2.2.1)
   have HS5_ := (hb.cell (ql _ _ (hHeld.2.2.2.2.2.1))).trans (hHeld.2.2.2.2.2.1)
   refine ⟨_, rfl, ?_⟩
   have n0_ := Aside0.mk (Kd.R_below (by (with_reducible repeat (first | apply qz | apply qx | apply qy)); exact HO_7.out) hb)
   have n1_ := Aside0.mk (blk_below (g := gb503) (o := .cells #[.int .i64 a2_0, .int .i64 a2_1, .string a2_2] 23 (0, 0)) (by (with_reducible repeat (first | refine qa ?_ _ | refine qb ?_ | refine qc ?_ _)); exact BK503.out) hb)
   have n2_ := Aside0.mk (below_step (by repeat (first | (with_reducible first | exact HB.out | apply qf | apply qn | apply qe | refine qd ?_ GE503.out) | exact HB.out)) hb)
   clear HO_7
   clear BK503
   clear HB
   have HO_7 := n0_
   have BK503 := n1_
   have HB := n2_
   clear n0_ n1_ n2_
   (try clear hb)
   (try clear hb2)
   (try clear hk)
   (try clear hi)
   refine hK.out _ _ ⟨((HB.out.cell (ql w _ hw523_0)).trans hw523_0), ((HB.out.cell (ql w _ hw523_1)).trans hw523_1), ((HB.out.cell (ql w _ hw523_2)).trans hw523_2), HS3_, HS4_, HS5_, ((HB.out.cell (ql w _ hw525_0)).trans hw525_0), ((HB.out.cell (ql w _ hw525_1)).trans hw525_1), ((HB.out.cell (ql w _ hw525_2)).trans hw525_2)⟩ (fun hHeld => ?_)
   clear hK K
   refine norm_ (a' := ?_) ?_ ?_
   rotate_left
   · show Act.put _ (some 64) _ = _
     simp only [Act.put, List.setIfInBounds_toArray, List.set_cons_zero, List.set_cons_succ, i64_w, i32_w]
     rfl
   refine pure_ (i := 16) (N := some 65) (v := ?_) (a' := ?_) #[true, true, true, true, true, true, true, true, true, true, true, true, true, true, true, true, true, false] rfl rfl (any_of HT_.out (by kernel_rfl)) (fun _ _ _ h => h) (Or.inl ⟨by rfl, ?_⟩) ?_ ?_
   rotate_left
   · intro w'
     go_simp
     with_reducible rfl
   rotate_left
   · simp only [Act.put, List.setIfInBounds_toArray, List.set_cons_zero, List.set_cons_succ, i64_w, i32_w]
     rfl
   refine pure_ (i := 17) (N := some 66) (v := ?_) (a' := ?_) #[true, true, true, true, true, true, true, true, true, true, true, true, true, true, true, true, true, true] rfl rfl (any_of HT_.out (by kernel_rfl)) (fun _ _ _ h => h) (Or.inl ⟨by rfl, ?_⟩) ?_ ?_
   rotate_left
   · intro w'
     go_simp
     with_reducible rfl
   rotate_left
   · simp only [Act.put, List.setIfInBounds_toArray, List.set_cons_zero, List.set_cons_succ, i64_w, i32_w]
     rfl
   refine done_ (done_of HT_.out (by kernel_rfl)) ?_
   try go_wp2
   go_roundg kj10
   case measure => have := HK1.out; have := HK2.out; have := HJ10.out; omega
   exact ⟨(x7_2), (wrap64 (x9_2 + 1)), (by first | rfl | (simp; done) | (simp [*]; done)), H', ⟨by have := HK1.out; have := HK2.out; have := HJ10.out; omega⟩, ⟨by (with_reducible repeat (first | apply qz | apply qx | apply qy)); exact HO_7.out⟩, ⟨by (with_reducible repeat (first | refine qa ?_ _ | refine qb ?_ | refine qc ?_ _)); exact BK503.out⟩, ⟨by repeat (first | (with_reducible first | exact HB.out | apply qf | apply qn | apply qe | refine qd ?_ GE503.out) | exact HB.out)⟩⟩
  replace c53 := Bool.eq_false_iff.mpr c53
  subst c53
  have H1 : (if x7_2.length < 4398046511104 then (hearsayref02_Class.l1 kj10 l0 l1 (x7_2 ++ [(⟨(rd_T23 l0 x9_2).f0, (rd_T23 l0 x9_2).f1, (rd_T23 l0 x9_2).f2⟩ : S23)]) x8_1 (wrap64 (x9_2 + 1))) else (none)) = some r := by rw [if_neg (show ¬ (false = true) by decide)] at H; exact H
  clear H
  have H := H1
  clear H1
  by_cases c57 : x7_2.length < 4398046511104
  rotate_left
  · rw [if_neg c57] at H
    exact absurd H (by simp)
  rw [if_pos c57] at H
  have LMc57 := Aside0.mk c57
  clear c57
  obtain ⟨y528, hy528⟩ : ∃ y_ : List (S23), y_ = (x7_2 ++ [(⟨(rd_T23 l0 x9_2).f0, (rd_T23 l0 x9_2).f1, (rd_T23 l0 x9_2).f2⟩ : S23)]) := ⟨_, rfl⟩
  replace H : (hearsayref02_Class.l1 kj10 l0 l1 y528 x8_1 (wrap64 (x9_2 + 1))) = some r := by first | (rw [hy528]; with_reducible exact H) | (have H2_ := (Option.bind_some _ _).symm.trans H; rw [hy528]; with_reducible exact H2_) | (have H2_ := (Option.bind_some _ _).symm.trans H; with_reducible exact H2_) | with_reducible exact H | (rw [hy528]; exact H) | exact H
  have Ny528 := Aside0.mk hy528
  clear hy528
  have H' := Aside0.mk H
  clear H
  try go_wp2
  have n0_ := Aside0.mk (qy HO_7.out)
  have n1_ := Aside0.mk (qb BK503.out)
  have n2_ := Aside0.mk (qe HB.out)
  clear HO_7
  clear BK503
  clear HB
  have HO_7 := n0_
  have BK503 := n1_
  have HB := n2_
  clear n0_ n1_ n2_
  have p523 : 0 ≤ (x9_2 : Int) := of_decide_eq_true (by first | (with_reducible assumption) | assumption)
  have q523 : x9_2 < (l1.length : Int) := of_decide_eq_true (by first | (with_reducible assumption) | assumption)
  obtain ⟨ad523, e523, hx523_0, hx523_1, hx523_2⟩ := at_T23 HR1.out x9_2 p523 q523
  have hw523_2 := hx523_2
  have hw523_1 := hx523_1
  have hw523_0 := hx523_0
  cases e523
  replace hx523_0 := (HB.out.cell (ql w _ hx523_0)).trans hx523_0
  replace hx523_1 := (HB.out.cell (ql w _ hx523_1)).trans hx523_1
  replace hx523_2 := (HB.out.cell (ql w _ hx523_2)).trans hx523_2
  replace p523 := eq_true p523
  replace q523 := eq_true q523
  obtain ⟨Ao59, co59, eo59⟩ := Kd.R_slice HO_7.out
  (first | subst eo59 | (injection eo59 with f1_ f2_ f3_; have f4_ := f1_.symm; have f5_ := f3_.symm; clear f1_ f2_ f3_; subst f4_; subst f5_))
  have p524 : 0 ≤ (x8_1 : Int) := of_decide_eq_true (by first | (with_reducible assumption) | assumption)
  have q524 : x8_1 < (x7_2.length : Int) := of_decide_eq_true (by first | (with_reducible assumption) | assumption)
  obtain ⟨ad524, e524, hx524_0, hx524_1, hx524_2⟩ := at_T23 (Kd.R_reads' HO_7.out).2.2 x8_1 p524 q524
  cases e524
  replace p524 := eq_true p524
  replace q524 := eq_true q524
  have p525 : 0 ≤ (x9_2 : Int) := of_decide_eq_true (by first | (with_reducible assumption) | assumption)
  have q525 : x9_2 < (l0.length : Int) := of_decide_eq_true (by first | (with_reducible assumption) | assumption)
  obtain ⟨ad525, e525, hx525_0, hx525_1, hx525_2⟩ := at_T23 HR0.out x9_2 p525 q525
  have hw525_2 := hx525_2
  have hw525_1 := hx525_1
  have hw525_0 := hx525_0
  cases e525
  replace hx525_0 := (HB.out.cell (ql w _ hx525_0)).trans hx525_0
  replace hx525_1 := (HB.out.cell (ql w _ hx525_1)).trans hx525_1
  replace hx525_2 := (HB.out.cell (ql w _ hx525_2)).trans hx525_2
  replace p525 := eq_true p525
  replace q525 := eq_true q525
  refine start_ (n := 18) (S := fun w' => w'.cell? (ad523.add ((x9_2).toNat * 3)) = some (.int .i64 ((rd_T23 l1 x9_2).f0)) ∧ w'.cell? ⟨(ad523.add ((x9_2).toNat * 3)).block, (ad523.add ((x9_2).toNat * 3)).off + 1, none⟩ = some (.int .i64 ((rd_T23 l1 x9_2).f1)) ∧ w'.cell? ⟨(ad523.add ((x9_2).toNat * 3)).block, (ad523.add ((x9_2).toNat * 3)).off + 2, none⟩ = some (.string ((rd_T23 l1 x9_2).f2)) ∧ w'.cell? (ad524.add ((x8_1).toNat * 3)) = some (.int .i64 ((rd_T23 x7_2 x8_1).f0)) ∧ w'.cell? ⟨(ad524.add ((x8_1).toNat * 3)).block, (ad524.add ((x8_1).toNat * 3)).off + 1, none⟩ = some (.int .i64 ((rd_T23 x7_2 x8_1).f1)) ∧ w'.cell? ⟨(ad524.add ((x8_1).toNat * 3)).block, (ad524.add ((x8_1).toNat * 3)).off + 2, none⟩ = some (.string ((rd_T23 x7_2 x8_1).f2)) ∧ w'.cell? (ad525.add ((x9_2).toNat * 3)) = some (.int .i64 ((rd_T23 l0 x9_2).f0)) ∧ w'.cell? ⟨(ad525.add ((x9_2).toNat * 3)).block, (ad525.add ((x9_2).toNat * 3)).off + 1, none⟩ = some (.int .i64 ((rd_T23 l0 x9_2).f1)) ∧ w'.cell? ⟨(ad525.add ((x9_2).toNat * 3)).block, (ad525.add ((x9_2).toNat * 3)).off + 2, none⟩ = some (.string ((rd_T23 l0 x9_2).f2))) (ds := []) #[false, false, false, false, false, false, false, false, false, false, false, false, false, false, false, false, false, false] (by kernel_rfl) rfl rfl ⟨((HB.out.cell (ql w _ hw523_0)).trans hw523_0), ((HB.out.cell (ql w _ hw523_1)).trans hw523_1), ((HB.out.cell (ql w _ hw523_2)).trans hw523_2), hx524_0, hx524_1, hx524_2, ((HB.out.cell (ql w _ hw525_0)).trans hw525_0), ((HB.out.cell (ql w _ hw525_1)).trans hw525_1), ((HB.out.cell (ql w _ hw525_2)).trans hw525_2)⟩ (fun hHeld => ?_); refine with_tabW hearsayref02_Class.tab10 hearsayref02_Class.bits10 (fun HT_ HW_ => ?_)
  generalize wc.drew = w58 at HO_7 BK503 HB hx523_0 hx523_1 hx523_2 hx524_0 hx524_1 hx524_2 hx525_0 hx525_1 hx525_2 hHeld ⊢
  refine pure_ (i := 0) (N := some 49) (v := ?_) (a' := ?_) #[true, false, false, false, false, false, false, false, false, false, false, false, false, false, false, false, false, false] rfl rfl (any_of HT_.out (by kernel_rfl)) (fun _ _ _ h => h) (Or.inl ⟨by rfl, ?_⟩) ?_ ?_
  rotate_left
  · intro w'
    go_simp
    with_reducible rfl
  rotate_left
  · simp only [Act.put, List.setIfInBounds_toArray, List.set_cons_zero, List.set_cons_succ, i64_w, i32_w]
    rfl
  refine pure_ (i := 1) (N := some 50) (v := ?_) (a' := ?_) #[true, true, false, false, false, false, false, false, false, false, false, false, false, false, false, false, false, false] rfl rfl (any_of HT_.out (by kernel_rfl)) (fun _ _ _ h => h) (Or.inl ⟨by rfl, ?_⟩) ?_ ?_
  rotate_left
  · intro w'
    go_simp
    with_reducible rfl
  rotate_left
  · simp only [Act.put, List.setIfInBounds_toArray, List.set_cons_zero, List.set_cons_succ, i64_w, i32_w]
    rfl
  refine pure_ (i := 2) (N := some 51) (v := ?_) (a' := ?_) #[true, true, true, false, false, false, false, false, false, false, false, false, false, false, false, false, false, false] rfl rfl (any_of HT_.out (by kernel_rfl)) (fun _ _ _ h => h) (Or.inl ⟨by rfl, ?_⟩) ?_ ?_
  rotate_left
  · intro w'
    go_simp
    with_reducible rfl
  rotate_left
  · simp only [Act.put, List.setIfInBounds_toArray, List.set_cons_zero, List.set_cons_succ, i64_w, i32_w]
    rfl
  refine pure_ (i := 4) (N := some 53) (v := ?_) (a' := ?_) #[true, true, true, false, true, false, false, false, false, false, false, false, false, false, false, false, false, false] rfl rfl (any_of HT_.out (by kernel_rfl)) (fun _ _ _ h => h) (Or.inl ⟨by rfl, ?_⟩) ?_ ?_
  rotate_left
  · intro w'
    go_simp
    with_reducible rfl
  rotate_left
  · simp only [Act.put, List.setIfInBounds_toArray, List.set_cons_zero, List.set_cons_succ, i64_w, i32_w]
    rfl
  refine pure_ (i := 5) (N := some 54) (v := ?_) (a' := ?_) #[true, true, true, false, true, true, false, false, false, false, false, false, false, false, false, false, false, false] rfl rfl (any_of HT_.out (by kernel_rfl)) (fun _ _ _ h => h) (Or.inl ⟨by rfl, ?_⟩) ?_ ?_
  rotate_left
  · intro w'
    go_simp
    with_reducible rfl
  rotate_left
  · simp only [Act.put, List.setIfInBounds_toArray, List.set_cons_zero, List.set_cons_succ, i64_w, i32_w]
    rfl
  refine pure_ (i := 6) (N := some 55) (v := ?_) (a' := ?_) #[true, true, true, false, true, true, true, false, false, false, false, false, false, false, false, false, false, false] rfl rfl (any_of HT_.out (by kernel_rfl)) (fun _ _ _ h => h) (Or.inl ⟨by rfl, ?_⟩) ?_ ?_
  rotate_left
  · intro w'
    go_simp
    with_reducible rfl
  rotate_left
  · simp only [Act.put, List.setIfInBounds_toArray, List.set_cons_zero, List.set_cons_succ, i64_w, i32_w]
    rfl
  refine take_ (i := 3) (N := some 52) (v := ?_) (a' := ?_) #[true, true, true, true, true, true, true, false, false, false, false, false, false, false, false, false, false, false] rfl rfl (take_ofW HT_.out HW_.out (by kernel_rfl)) (fun _ _ _ h => h) (Or.inl ⟨by rfl, ?_⟩) hHeld ?_ ?_
  rotate_left
  · rintro w' ⟨s0, s1, s2, s3, s4, s5, s6, s7, s8⟩
    go_simp
    with_reducible rfl
  rotate_left
  · simp only [Act.put, List.setIfInBounds_toArray, List.set_cons_zero, List.set_cons_succ, i64_w, i32_w]
    rfl
  refine take_ (i := 7) (N := some 56) (v := ?_) (a' := ?_) #[true, true, true, true, true, true, true, true, false, false, false, false, false, false, false, false, false, false] rfl rfl (take_ofW HT_.out HW_.out (by kernel_rfl)) (fun _ _ _ h => h) (Or.inl ⟨by rfl, ?_⟩) hHeld ?_ ?_
  rotate_left
  · rintro w' ⟨s0, s1, s2, s3, s4, s5, s6, s7, s8⟩
    go_simp
    with_reducible rfl
  rotate_left
  · simp only [Act.put, List.setIfInBounds_toArray, List.set_cons_zero, List.set_cons_succ, i64_w, i32_w]
    rfl
  refine pure_ (i := 8) (N := some 57) (v := ?_) (a' := ?_) #[true, true, true, true, true, true, true, true, true, false, false, false, false, false, false, false, false, false] rfl rfl (any_of HT_.out (by kernel_rfl)) (fun _ _ _ h => h) (Or.inl ⟨by rfl, ?_⟩) ?_ ?_
  rotate_left
  · intro w'
    go_simp
    with_reducible rfl
  rotate_left
  · simp only [Act.put, List.setIfInBounds_toArray, List.set_cons_zero, List.set_cons_succ, i64_w, i32_w]
    rfl
  refine pure_ (i := 9) (N := some 58) (v := ?_) (a' := ?_) #[true, true, true, true, true, true, true, true, true, true, false, false, false, false, false, false, false, false] rfl rfl (any_of HT_.out (by kernel_rfl)) (fun _ _ _ h => h) (Or.inl ⟨by rfl, ?_⟩) ?_ ?_
  rotate_left
  · intro w'
    go_simp
    with_reducible rfl
  rotate_left
  · simp only [Act.put, List.setIfInBounds_toArray, List.set_cons_zero, List.set_cons_succ, i64_w, i32_w]
    rfl
  refine pure_ (i := 10) (N := some 59) (v := ?_) (a' := ?_) #[true, true, true, true, true, true, true, true, true, true, true, false, false, false, false, false, false, false] rfl rfl (any_of HT_.out (by kernel_rfl)) (fun _ _ _ h => h) (Or.inl ⟨by rfl, ?_⟩) ?_ ?_
  rotate_left
  · intro w'
    go_simp
    with_reducible rfl
  rotate_left
  · simp only [Act.put, List.setIfInBounds_toArray, List.set_cons_zero, List.set_cons_succ, i64_w, i32_w]
    rfl
  refine pure_ (i := 11) (N := some 60) (v := ?_) (a' := ?_) #[true, true, true, true, true, true, true, true, true, true, true, true, false, false, false, false, false, false] rfl rfl (any_of HT_.out (by kernel_rfl)) (fun _ _ _ h => h) (Or.inl ⟨by rfl, ?_⟩) ?_ ?_
  rotate_left
  · intro w'
    go_simp
    with_reducible rfl
  rotate_left
  · simp only [Act.put, List.setIfInBounds_toArray, List.set_cons_zero, List.set_cons_succ, i64_w, i32_w]
    rfl
  refine pure_ (i := 12) (N := some 61) (v := ?_) (a' := ?_) #[true, true, true, true, true, true, true, true, true, true, true, true, true, false, false, false, false, false] rfl rfl (any_of HT_.out (by kernel_rfl)) (fun _ _ _ h => h) (Or.inl ⟨by rfl, ?_⟩) ?_ ?_
  rotate_left
  · intro w'
    go_simp
    with_reducible rfl
  rotate_left
  · simp only [Act.put, List.setIfInBounds_toArray, List.set_cons_zero, List.set_cons_succ, i64_w, i32_w]
    rfl
  refine pure_ (i := 13) (N := some 62) (v := ?_) (a' := ?_) #[true, true, true, true, true, true, true, true, true, true, true, true, true, true, false, false, false, false] rfl rfl (any_of HT_.out (by kernel_rfl)) (fun _ _ _ h => h) (Or.inl ⟨by rfl, ?_⟩) ?_ ?_
  rotate_left
  · intro w'
    go_simp
    with_reducible rfl
  rotate_left
  · simp only [Act.put, List.setIfInBounds_toArray, List.set_cons_zero, List.set_cons_succ, i64_w, i32_w]
    rfl
  refine take_ (i := 14) (N := some 63) (v := ?_) (a' := ?_) #[true, true, true, true, true, true, true, true, true, true, true, true, true, true, true, false, false, false] rfl rfl (take_ofW HT_.out HW_.out (by kernel_rfl)) (fun _ _ _ h => h) (Or.inl ⟨by rfl, ?_⟩) hHeld ?_ ?_
  rotate_left
  · rintro w' ⟨s0, s1, s2, s3, s4, s5, s6, s7, s8⟩
    go_simp
    with_reducible rfl
  rotate_left
  · simp only [Act.put, List.setIfInBounds_toArray, List.set_cons_zero, List.set_cons_succ, i64_w, i32_w]
    rfl
  refine one_ (i := 15) (N := some 64) #[true, true, true, true, true, true, true, true, true, true, true, true, true, true, true, true, false, false] rfl rfl (one_of HT_.out (by kernel_rfl)) (by decide) (fun K hK => ?_)
  refine goes_ Tryd.func84 (by kernel_rfl) rfl #[.slice (some ad524) x7_2.length co59, .agg #[.int .i64 ((rd_T23 l0 x9_2).f0), .int .i64 ((rd_T23 l0 x9_2).f1), .string ((rd_T23 l0 x9_2).f2)]] (by rfl) rfl rfl (by (try simp only [List.map_toArray, List.map_cons, List.map_nil]); first | done | rfl | (simp only [List.length_drop, List.length_take]; rfl)) ?_
  with_reducible refine (hearsayref02_holds.calls kj10 _ _ x7_2 ((rd_T23 l0 x9_2).f0) ((rd_T23 l0 x9_2).f1) ((rd_T23 l0 x9_2).f2) false _ ?side1 ?side2 A52.out).mono ?_
  (case side1 => repeat (first | exact (Kd.R_reads' HO_7.out).2.2 | (with_reducible refine Kd.C_alloc ?_ _) | (with_reducible refine Kd.C_drewN ?_ _) | (with_reducible refine Kd.C_drew ?_)))
  (case side2 => exact (Kd.R_reads' HO_7.out).2.1)
  rintro e w60 ⟨rfl, hb⟩
  have HS3_ := (hb.cell (ql _ _ (hHeld.2.2.2.1))).trans (hHeld.2.2.2.1)
  have HS4_ := (hb.cell (ql _ _ (hHeld.2.2.2.2.1))).trans (hHeld.2.2.2.2.1)
  have HS5_ := (hb.cell (ql _ _ (hHeld.2.2.2.2.2.1))).trans (hHeld.2.2.2.2.2.1)
  refine ⟨_, rfl, ?_⟩
  have n0_ := Aside0.mk (Kd.R_below (by (with_reducible repeat (first | apply qz | apply qx | apply qy)); exact HO_7.out) hb)
  have n1_ := Aside0.mk (blk_below (g := gb503) (o := .cells #[.int .i64 a2_0, .int .i64 a2_1, .string a2_2] 23 (0, 0)) (by (with_reducible repeat (first | refine qa ?_ _ | refine qb ?_ | refine qc ?_ _)); exact BK503.out) hb)
  have n2_ := Aside0.mk (below_step (by repeat (first | (with_reducible first | exact HB.out | apply qf | apply qn | apply qe | refine qd ?_ GE503.out) | exact HB.out)) hb)
  clear HO_7
  clear BK503
  clear HB
  have HO_7 := n0_
  have BK503 := n1_
  have HB := n2_
  clear n0_ n1_ n2_
  (try clear hb)
  (try clear hb2)
  (try clear hk)
  (try clear hi)
  refine hK.out _ _ ⟨((HB.out.cell (ql w _ hw523_0)).trans hw523_0), ((HB.out.cell (ql w _ hw523_1)).trans hw523_1), ((HB.out.cell (ql w _ hw523_2)).trans hw523_2), HS3_, HS4_, HS5_, ((HB.out.cell (ql w _ hw525_0)).trans hw525_0), ((HB.out.cell (ql w _ hw525_1)).trans hw525_1), ((HB.out.cell (ql w _ hw525_2)).trans hw525_2)⟩ (fun hHeld => ?_)
  clear hK K
  refine norm_ (a' := ?_) ?_ ?_
  rotate_left
  · show Act.put _ (some 64) _ = _
    simp only [Act.put, List.setIfInBounds_toArray, List.set_cons_zero, List.set_cons_succ, i64_w, i32_w]
    rfl
  refine pure_ (i := 16) (N := some 65) (v := ?_) (a' := ?_) #[true, true, true, true, true, true, true, true, true, true, true, true, true, true, true, true, true, false] rfl rfl (any_of HT_.out (by kernel_rfl)) (fun _ _ _ h => h) (Or.inl ⟨by rfl, ?_⟩) ?_ ?_
  rotate_left
  · intro w'
    go_simp
    with_reducible rfl
  rotate_left
  · simp only [Act.put, List.setIfInBounds_toArray, List.set_cons_zero, List.set_cons_succ, i64_w, i32_w]
    rfl
  refine pure_ (i := 17) (N := some 66) (v := ?_) (a' := ?_) #[true, true, true, true, true, true, true, true, true, true, true, true, true, true, true, true, true, true] rfl rfl (any_of HT_.out (by kernel_rfl)) (fun _ _ _ h => h) (Or.inl ⟨by rfl, ?_⟩) ?_ ?_
  rotate_left
  · intro w'
    go_simp
    with_reducible rfl
  rotate_left
  · simp only [Act.put, List.setIfInBounds_toArray, List.set_cons_zero, List.set_cons_succ, i64_w, i32_w]
    rfl
  refine done_ (done_of HT_.out (by kernel_rfl)) ?_
  have p527 : 0 ≤ (x9_2 : Int) := of_decide_eq_true (by first | (with_reducible assumption) | assumption)
  have q527 : x9_2 < (l0.length : Int) := of_decide_eq_true (by first | (with_reducible assumption) | assumption)
  obtain ⟨ad527, e527, hx527_0, hx527_1, hx527_2⟩ := at_T23 HR0.out x9_2 p527 q527
  obtain rfl : ad525 = ad527 := (by injection e527)
  replace hx527_0 := (HB.out.cell (ql w _ hx527_0)).trans hx527_0
  replace hx527_1 := (HB.out.cell (ql w _ hx527_1)).trans hx527_1
  replace hx527_2 := (HB.out.cell (ql w _ hx527_2)).trans hx527_2
  replace p527 := eq_true p527
  replace q527 := eq_true q527
  try go_wp2_with (first | ((with_reducible refine gate_builtin (b := .append) (xs := #[.tmp 67, .tmp 72]) rfl ?_); at_builtin; refine Kd.R_append k23 (w0 := w) w.heap.size rfl (.tmp 67) (.tmp 72) 24 23 (.agg #[(.int .i64 0), (.int .i64 0), (.string ⟨#[]⟩)]) 32 rfl Tryd.underlying24 info23 rfl (by decide) (by omega) (.slice (some ad524) x7_2.length co59) x7_2 (⟨(rd_T23 l0 x9_2).f0, (rd_T23 l0 x9_2).f1, (rd_T23 l0 x9_2).f2⟩ : S23) [.int .i64 ((rd_T23 l0 x9_2).f0), .int .i64 ((rd_T23 l0 x9_2).f1), .string ((rd_T23 l0 x9_2).f2)] (fun k_ => k_ ≠ gb503) (fun _ => False) rfl rfl ?aP (fun _ hk => hk.elim) ?aF ?aO ?aB ?aS ?aL ?_; (case aP => exact k23_mkM _ _ _ (⟨(rd_T23 l0 x9_2).f0, (rd_T23 l0 x9_2).f1, (rd_T23 l0 x9_2).f2⟩ : S23)); (case aB => exact (by repeat (first | (with_reducible first | exact HB.out | apply qf | apply qn | apply qe | refine qd ?_ GE503.out) | exact HB.out))); (case aF => exact (fun k_ hk => Kd.freshB (g := gb503) (o := .cells #[.int .i64 a2_0, .int .i64 a2_1, .string a2_2] 23 (0, 0)) (by (with_reducible repeat (first | refine qa ?_ _ | refine qb ?_ | refine qc ?_ _)); exact BK503.out) k_ hk)); (case aO => exact (by (with_reducible repeat (first | apply qz | apply qx | apply qy)); exact HO_7.out)); (case aS => exact (below_size (by repeat (first | (with_reducible first | exact HB.out | apply qf | apply qn | apply qe | refine qd ?_ GE503.out) | exact HB.out)))); (case aL => have := LMc57.out; omega); intro v529 w61 ho hb hg hat; rw [← Ny528.out] at ho; have n0_ := Aside0.mk (blk_grown (g := gb503) (o := .cells #[.int .i64 a2_0, .int .i64 a2_1, .string a2_2] 23 (0, 0)) (by (with_reducible repeat (first | refine qa ?_ _ | refine qb ?_ | refine qc ?_ _)); exact BK503.out) hg (Kd.R_away HO_7.out (fun _ hk => hk))); have n1_ := Aside0.mk (hb); have n2_ := Aside0.mk (ho); clear BK503; clear HB; clear HO_7; have BK503 := n0_; have HB := n1_; have HO530 := n2_; clear n0_ n1_ n2_; clear ho hb hg hat))
  go_roundg kj10
  case measure => have := HK1.out; have := HK2.out; have := HJ10.out; omega
  exact ⟨(y528), (wrap64 (x9_2 + 1)), (by first | rfl | (simp; done) | (simp [*]; done)), H', ⟨by have := HK1.out; have := HK2.out; have := HJ10.out; omega⟩, ⟨by (with_reducible repeat (first | apply qz | apply qx | apply qy)); exact HO530.out⟩, ⟨by (with_reducible repeat (first | refine qa ?_ _ | refine qb ?_ | refine qc ?_ _)); exact BK503.out⟩, ⟨by repeat (first | (with_reducible first | exact HB.out | apply qf | apply qn | apply qe | refine qd ?_ GE503.out) | exact HB.out)⟩⟩
 subst c23
 have H1 : (if 0 ≤ x9_2 then (if x9_2 < (l1.length : Int) then (if x7_2.length < 4398046511104 then ((some (x7_2 ++ [(⟨(rd_T23 l1 x9_2).f0, (rd_T23 l1 x9_2).f1, (rd_T23 l1 x9_2).f2⟩ : S23)] : List (S23))).bind fun y512 => (if 0 ≤ x8_1 then (if x8_1 < (y512.length : Int) then (if (((rd_T23 l1 x9_2).f0) == ((rd_T23 y512 x8_1).f0) && (((rd_T23 l1 x9_2).f1) == ((rd_T23 y512 x8_1).f1) && ((((rd_T23 l1 x9_2).f2).toList) == (((rd_T23 y512 x8_1).f2).toList)))) = true then (if x9_2 < (l0.length : Int) then ((hearsayref02_holds.f kj10 y512 ((rd_T23 l0 x9_2).f0) ((rd_T23 l0 x9_2).f1) ((rd_T23 l0 x9_2).f2)).bind fun t518 => (if t518 = true then (hearsayref02_Class.l1 kj10 l0 l1 y512 x8_1 (wrap64 (x9_2 + 1))) else (if y512.length < 4398046511104 then (hearsayref02_Class.l1 kj10 l0 l1 (y512 ++ [(⟨(rd_T23 l0 x9_2).f0, (rd_T23 l0 x9_2).f1, (rd_T23 l0 x9_2).f2⟩ : S23)]) x8_1 (wrap64 (x9_2 + 1))) else (none)))) else (none)) else (hearsayref02_Class.l1 kj10 l0 l1 y512 x8_1 (wrap64 (x9_2 + 1)))) else (none)) else (none))) else (none)) else (none)) else (none)) = some r := by rw [if_pos rfl] at H; exact H
 clear H
 have H := H1
 clear H1
 by_cases c24 : 0 ≤ x9_2
 rotate_left
 · rw [if_neg c24] at H
   exact absurd H (by simp)
 rw [if_pos c24] at H
 have c24b0 : decide (0 ≤ x9_2) = true := decide_eq_true c24
 clear c24
 by_cases c25 : x9_2 < (l1.length : Int)
 rotate_left
 · rw [if_neg c25] at H
   exact absurd H (by simp)
 rw [if_pos c25] at H
 have c25b0 : decide (x9_2 < (l1.length : Int)) = true := decide_eq_true c25
 clear c25
 by_cases c26 : x7_2.length < 4398046511104
 rotate_left
 · rw [if_neg c26] at H
   exact absurd H (by simp)
 rw [if_pos c26] at H
 have LMc26 := Aside0.mk c26
 clear c26
 obtain ⟨y512, hy512⟩ : ∃ y_ : List (S23), y_ = (x7_2 ++ [(⟨(rd_T23 l1 x9_2).f0, (rd_T23 l1 x9_2).f1, (rd_T23 l1 x9_2).f2⟩ : S23)]) := ⟨_, rfl⟩
 replace H : (if 0 ≤ x8_1 then (if x8_1 < (y512.length : Int) then (if (((rd_T23 l1 x9_2).f0) == ((rd_T23 y512 x8_1).f0) && (((rd_T23 l1 x9_2).f1) == ((rd_T23 y512 x8_1).f1) && ((((rd_T23 l1 x9_2).f2).toList) == (((rd_T23 y512 x8_1).f2).toList)))) = true then (if x9_2 < (l0.length : Int) then ((hearsayref02_holds.f kj10 y512 ((rd_T23 l0 x9_2).f0) ((rd_T23 l0 x9_2).f1) ((rd_T23 l0 x9_2).f2)).bind fun t518 => (if t518 = true then (hearsayref02_Class.l1 kj10 l0 l1 y512 x8_1 (wrap64 (x9_2 + 1))) else (if y512.length < 4398046511104 then (hearsayref02_Class.l1 kj10 l0 l1 (y512 ++ [(⟨(rd_T23 l0 x9_2).f0, (rd_T23 l0 x9_2).f1, (rd_T23 l0 x9_2).f2⟩ : S23)]) x8_1 (wrap64 (x9_2 + 1))) else (none)))) else (none)) else (hearsayref02_Class.l1 kj10 l0 l1 y512 x8_1 (wrap64 (x9_2 + 1)))) else (none)) else (none)) = some r := by first | (rw [hy512]; with_reducible exact H) | (have H2_ := (Option.bind_some _ _).symm.trans H; rw [hy512]; with_reducible exact H2_) | (have H2_ := (Option.bind_some _ _).symm.trans H; with_reducible exact H2_) | with_reducible exact H | (rw [hy512]; exact H) | exact H
 have Ny512 := Aside0.mk hy512
 clear hy512
 by_cases c27 : 0 ≤ x8_1
 rotate_left
 · rw [if_neg c27] at H
   exact absurd H (by simp)
 rw [if_pos c27] at H
 have c27b0 : decide (0 ≤ x8_1) = true := decide_eq_true c27
 clear c27
 by_cases c28 : x8_1 < (y512.length : Int)
 rotate_left
 · rw [if_neg c28] at H
   exact absurd H (by simp)
 rw [if_pos c28] at H
 have c28b0 : decide (x8_1 < (y512.length : Int)) = true := decide_eq_true c28
 clear c28
 by_cases c29 : (((rd_T23 l1 x9_2).f0) == ((rd_T23 y512 x8_1).f0) && (((rd_T23 l1 x9_2).f1) == ((rd_T23 y512 x8_1).f1) && ((((rd_T23 l1 x9_2).f2).toList) == (((rd_T23 y512 x8_1).f2).toList)))) = true
 rotate_left
 ·
  rw [if_neg c29] at H
  have c29b0 : (((rd_T23 l1 x9_2).f0) == ((rd_T23 y512 x8_1).f0) && (((rd_T23 l1 x9_2).f1) == ((rd_T23 y512 x8_1).f1) && ((((rd_T23 l1 x9_2).f2).toList) == (((rd_T23 y512 x8_1).f2).toList)))) = false := by simpa using c29
  (try (have c29b1 : decide (((rd_T23 l1 x9_2).f0) = ((rd_T23 y512 x8_1).f0) && (((rd_T23 l1 x9_2).f1) == ((rd_T23 y512 x8_1).f1) && ((((rd_T23 l1 x9_2).f2).toList) == (((rd_T23 y512 x8_1).f2).toList)))) = false := by simpa using c29))
  (try (have c29b2 : (((rd_T23 l1 x9_2).f0) == ((rd_T23 y512 x8_1).f0) && (((rd_T23 l1 x9_2).f1) == ((rd_T23 y512 x8_1).f1) && ((((rd_T23 l1 x9_2).f2).toList) == (((rd_T23 y512 x8_1).f2).toList)))) = false := by simpa using c29))
  (try (have c29b3 : ¬ (((rd_T23 l1 x9_2).f0) = ((rd_T23 y512 x8_1).f0) && (((rd_T23 l1 x9_2).f1) == ((rd_T23 y512 x8_1).f1) && ((((rd_T23 l1 x9_2).f2).toList) == (((rd_T23 y512 x8_1).f2).toList)))) := by simpa using c29))
  clear c29
  have H' := Aside0.mk H
  clear H
  have p511 : 0 ≤ (x9_2 : Int) := of_decide_eq_true (by first | (with_reducible assumption) | assumption)
  have q511 : x9_2 < (l1.length : Int) := of_decide_eq_true (by first | (with_reducible assumption) | assumption)
  obtain ⟨ad511, e511, hx511_0, hx511_1, hx511_2⟩ := at_T23 HR1.out x9_2 p511 q511
  cases e511
  replace hx511_0 := (HB.out.cell (ql w _ hx511_0)).trans hx511_0
  replace hx511_1 := (HB.out.cell (ql w _ hx511_1)).trans hx511_1
  replace hx511_2 := (HB.out.cell (ql w _ hx511_2)).trans hx511_2
  replace p511 := eq_true p511
  replace q511 := eq_true q511
  try go_wp2_with (first | ((with_reducible refine gate_builtin (b := .append) (xs := #[.tmp 42, .tmp 47]) rfl ?_); at_builtin; refine Kd.R_append k23 (w0 := w) w.heap.size rfl (.tmp 42) (.tmp 47) 24 23 (.agg #[(.int .i64 0), (.int .i64 0), (.string ⟨#[]⟩)]) 32 rfl Tryd.underlying24 info23 rfl (by decide) (by omega) u7 x7_2 (⟨(rd_T23 l1 x9_2).f0, (rd_T23 l1 x9_2).f1, (rd_T23 l1 x9_2).f2⟩ : S23) [.int .i64 ((rd_T23 l1 x9_2).f0), .int .i64 ((rd_T23 l1 x9_2).f1), .string ((rd_T23 l1 x9_2).f2)] (fun k_ => k_ ≠ gb503) (fun _ => False) rfl rfl ?aP (fun _ hk => hk.elim) ?aF ?aO ?aB ?aS ?aL ?_; (case aP => exact k23_mkM _ _ _ (⟨(rd_T23 l1 x9_2).f0, (rd_T23 l1 x9_2).f1, (rd_T23 l1 x9_2).f2⟩ : S23)); (case aB => exact (by repeat (first | (with_reducible first | exact HB.out | apply qf | apply qn | apply qe | refine qd ?_ GE503.out) | exact HB.out))); (case aF => exact (fun k_ hk => Kd.freshB (g := gb503) (o := .cells #[.int .i64 a2_0, .int .i64 a2_1, .string a2_2] 23 (0, 0)) (by (with_reducible repeat (first | refine qa ?_ _ | refine qb ?_ | refine qc ?_ _)); exact BK503.out) k_ hk)); (case aO => exact (by (with_reducible repeat (first | apply qz | apply qx | apply qy)); exact HO_7.out)); (case aS => exact (below_size (by repeat (first | (with_reducible first | exact HB.out | apply qf | apply qn | apply qe | refine qd ?_ GE503.out) | exact HB.out)))); (case aL => have := LMc26.out; omega); intro v513 w43 ho hb hg hat; rw [← Ny512.out] at ho; have n0_ := Aside0.mk (blk_grown (g := gb503) (o := .cells #[.int .i64 a2_0, .int .i64 a2_1, .string a2_2] 23 (0, 0)) (by (with_reducible repeat (first | refine qa ?_ _ | refine qb ?_ | refine qc ?_ _)); exact BK503.out) hg (Kd.R_away HO_7.out (fun _ hk => hk))); have n1_ := Aside0.mk (hb); have n2_ := Aside0.mk (ho); clear BK503; clear HB; clear HO_7; have BK503 := n0_; have HB := n1_; have HO514 := n2_; clear n0_ n1_ n2_; clear ho hb hg hat))
  have n0_ := Aside0.mk (qy HO514.out)
  have n1_ := Aside0.mk (qb BK503.out)
  have n2_ := Aside0.mk (qe HB.out)
  clear HO514
  clear BK503
  clear HB
  have HO514 := n0_
  have BK503 := n1_
  have HB := n2_
  clear n0_ n1_ n2_
  have p515 : 0 ≤ (x9_2 : Int) := of_decide_eq_true (by first | (with_reducible assumption) | assumption)
  have q515 : x9_2 < (l1.length : Int) := of_decide_eq_true (by first | (with_reducible assumption) | assumption)
  obtain ⟨ad515, e515, hx515_0, hx515_1, hx515_2⟩ := at_T23 HR1.out x9_2 p515 q515
  have hw515_2 := hx515_2
  have hw515_1 := hx515_1
  have hw515_0 := hx515_0
  obtain rfl : ad511 = ad515 := (by injection e515)
  replace hx515_0 := (HB.out.cell (ql w _ hx515_0)).trans hx515_0
  replace hx515_1 := (HB.out.cell (ql w _ hx515_1)).trans hx515_1
  replace hx515_2 := (HB.out.cell (ql w _ hx515_2)).trans hx515_2
  replace p515 := eq_true p515
  replace q515 := eq_true q515
  obtain ⟨Ao45, co45, eo45⟩ := Kd.R_slice HO514.out
  (first | subst eo45 | (injection eo45 with f1_ f2_ f3_; have f4_ := f1_.symm; have f5_ := f3_.symm; clear f1_ f2_ f3_; subst f4_; subst f5_))
  have p516 : 0 ≤ (x8_1 : Int) := of_decide_eq_true (by first | (with_reducible assumption) | assumption)
  have q516 : x8_1 < (y512.length : Int) := of_decide_eq_true (by first | (with_reducible assumption) | assumption)
  obtain ⟨ad516, e516, hx516_0, hx516_1, hx516_2⟩ := at_T23 (Kd.R_reads' HO514.out).2.2 x8_1 p516 q516
  cases e516
  replace p516 := eq_true p516
  replace q516 := eq_true q516
  refine start_ (n := 18) (S := fun w' => w'.cell? (ad511.add ((x9_2).toNat * 3)) = some (.int .i64 ((rd_T23 l1 x9_2).f0)) ∧ w'.cell? ⟨(ad511.add ((x9_2).toNat * 3)).block, (ad511.add ((x9_2).toNat * 3)).off + 1, none⟩ = some (.int .i64 ((rd_T23 l1 x9_2).f1)) ∧ w'.cell? ⟨(ad511.add ((x9_2).toNat * 3)).block, (ad511.add ((x9_2).toNat * 3)).off + 2, none⟩ = some (.string ((rd_T23 l1 x9_2).f2)) ∧ w'.cell? (ad516.add ((x8_1).toNat * 3)) = some (.int .i64 ((rd_T23 y512 x8_1).f0)) ∧ w'.cell? ⟨(ad516.add ((x8_1).toNat * 3)).block, (ad516.add ((x8_1).toNat * 3)).off + 1, none⟩ = some (.int .i64 ((rd_T23 y512 x8_1).f1)) ∧ w'.cell? ⟨(ad516.add ((x8_1).toNat * 3)).block, (ad516.add ((x8_1).toNat * 3)).off + 2, none⟩ = some (.string ((rd_T23 y512 x8_1).f2))) (ds := []) #[false, false, false, false, false, false, false, false, false, false, false, false, false, false, false, false, false, false] (by kernel_rfl) rfl rfl ⟨((HB.out.cell (ql w _ hw515_0)).trans hw515_0), ((HB.out.cell (ql w _ hw515_1)).trans hw515_1), ((HB.out.cell (ql w _ hw515_2)).trans hw515_2), hx516_0, hx516_1, hx516_2⟩ (fun hHeld => ?_); refine with_tabW hearsayref02_Class.tab10 hearsayref02_Class.bits10 (fun HT_ HW_ => ?_)
  generalize w43.drew = w44 at HO514 BK503 HB hx515_0 hx515_1 hx515_2 hx516_0 hx516_1 hx516_2 hHeld ⊢
  refine pure_ (i := 0) (N := some 49) (v := ?_) (a' := ?_) #[true, false, false, false, false, false, false, false, false, false, false, false, false, false, false, false, false, false] rfl rfl (any_of HT_.out (by kernel_rfl)) (fun _ _ _ h => h) (Or.inl ⟨by rfl, ?_⟩) ?_ ?_
  rotate_left
  · intro w'
    go_simp
    with_reducible rfl
  rotate_left
  · simp only [Act.put, List.setIfInBounds_toArray, List.set_cons_zero, List.set_cons_succ, i64_w, i32_w]
    rfl
  refine pure_ (i := 1) (N := some 50) (v := ?_) (a' := ?_) #[true, true, false, false, false, false, false, false, false, false, false, false, false, false, false, false, false, false] rfl rfl (any_of HT_.out (by kernel_rfl)) (fun _ _ _ h => h) (Or.inl ⟨by rfl, ?_⟩) ?_ ?_
  rotate_left
  · intro w'
    go_simp
    with_reducible rfl
  rotate_left
  · simp only [Act.put, List.setIfInBounds_toArray, List.set_cons_zero, List.set_cons_succ, i64_w, i32_w]
    rfl
  refine pure_ (i := 2) (N := some 51) (v := ?_) (a' := ?_) #[true, true, true, false, false, false, false, false, false, false, false, false, false, false, false, false, false, false] rfl rfl (any_of HT_.out (by kernel_rfl)) (fun _ _ _ h => h) (Or.inl ⟨by rfl, ?_⟩) ?_ ?_
  rotate_left
  · intro w'
    go_simp
    with_reducible rfl
  rotate_left
  · simp only [Act.put, List.setIfInBounds_toArray, List.set_cons_zero, List.set_cons_succ, i64_w, i32_w]
    rfl
  refine pure_ (i := 4) (N := some 53) (v := ?_) (a' := ?_) #[true, true, true, false, true, false, false, false, false, false, false, false, false, false, false, false, false, false] rfl rfl (any_of HT_.out (by kernel_rfl)) (fun _ _ _ h => h) (Or.inl ⟨by rfl, ?_⟩) ?_ ?_
  rotate_left
  · intro w'
    go_simp
    with_reducible rfl
  rotate_left
  · simp only [Act.put, List.setIfInBounds_toArray, List.set_cons_zero, List.set_cons_succ, i64_w, i32_w]
    rfl
  refine pure_ (i := 5) (N := some 54) (v := ?_) (a' := ?_) #[true, true, true, false, true, true, false, false, false, false, false, false, false, false, false, false, false, false] rfl rfl (any_of HT_.out (by kernel_rfl)) (fun _ _ _ h => h) (Or.inl ⟨by rfl, ?_⟩) ?_ ?_
  rotate_left
  · intro w'
    go_simp
    with_reducible rfl
  rotate_left
  · simp only [Act.put, List.setIfInBounds_toArray, List.set_cons_zero, List.set_cons_succ, i64_w, i32_w]
    rfl
  refine pure_ (i := 6) (N := some 55) (v := ?_) (a' := ?_) #[true, true, true, false, true, true, true, false, false, false, false, false, false, false, false, false, false, false] rfl rfl (any_of HT_.out (by kernel_rfl)) (fun _ _ _ h => h) (Or.inl ⟨by rfl, ?_⟩) ?_ ?_
  rotate_left
  · intro w'
    go_simp
    with_reducible rfl
  rotate_left
  · simp only [Act.put, List.setIfInBounds_toArray, List.set_cons_zero, List.set_cons_succ, i64_w, i32_w]
    rfl
  refine take_ (i := 3) (N := some 52) (v := ?_) (a' := ?_) #[true, true, true, true, true, true, true, false, false, false, false, false, false, false, false, false, false, false] rfl rfl (take_ofW HT_.out HW_.out (by kernel_rfl)) (fun _ _ _ h => h) (Or.inl ⟨by rfl, ?_⟩) hHeld ?_ ?_
  rotate_left
  · rintro w' ⟨s0, s1, s2, s3, s4, s5⟩
    go_simp
    with_reducible rfl
  rotate_left
  · simp only [Act.put, List.setIfInBounds_toArray, List.set_cons_zero, List.set_cons_succ, i64_w, i32_w]
    rfl
  refine take_ (i := 7) (N := some 56) (v := ?_) (a' := ?_) #[true, true, true, true, true, true, true, true, false, false, false, false, false, false, false, false, false, false] rfl rfl (take_ofW HT_.out HW_.out (by kernel_rfl)) (fun _ _ _ h => h) (Or.inl ⟨by rfl, ?_⟩) hHeld ?_ ?_
  rotate_left
  · rintro w' ⟨s0, s1, s2, s3, s4, s5⟩
    go_simp
    with_reducible rfl
  rotate_left
  · simp only [Act.put, List.setIfInBounds_toArray, List.set_cons_zero, List.set_cons_succ, i64_w, i32_w]
    rfl
  refine pure_ (i := 8) (N := some 57) (v := ?_) (a' := ?_) #[true, true, true, true, true, true, true, true, true, false, false, false, false, false, false, false, false, false] rfl rfl (any_of HT_.out (by kernel_rfl)) (fun _ _ _ h => h) (Or.inl ⟨by rfl, ?_⟩) ?_ ?_
  rotate_left
  · intro w'
    go_simp
    with_reducible rfl
  rotate_left
  · simp only [Act.put, List.setIfInBounds_toArray, List.set_cons_zero, List.set_cons_succ, i64_w, i32_w]
    rfl
  refine pure_ (i := 9) (N := some 58) (v := ?_) (a' := ?_) #[true, true, true, true, true, true, true, true, true, true, false, false, false, false, false, false, false, false] rfl rfl (any_of HT_.out (by kernel_rfl)) (fun _ _ _ h => h) (Or.inl ⟨by rfl, ?_⟩) ?_ ?_
  rotate_left
  · intro w'
    go_simp
    with_reducible rfl
  rotate_left
  · simp only [Act.put, List.setIfInBounds_toArray, List.set_cons_zero, List.set_cons_succ, i64_w, i32_w]
    rfl
  refine pure_ (i := 10) (N := some 59) (v := undef) (a' := ?_) #[true, true, true, true, true, true, true, true, true, true, true, false, false, false, false, false, false, false] rfl rfl (any_of HT_.out (by kernel_rfl)) (fun _ _ _ h => h) (Or.inr ⟨by rfl, rfl⟩) ?_ ?_
  rotate_left
  · simp only [Act.put, List.setIfInBounds_toArray, List.set_cons_zero, List.set_cons_succ, i64_w, i32_w]
    rfl
  refine pure_ (i := 11) (N := some 60) (v := undef) (a' := ?_) #[true, true, true, true, true, true, true, true, true, true, true, true, false, false, false, false, false, false] rfl rfl (any_of HT_.out (by kernel_rfl)) (fun _ _ _ h => h) (Or.inr ⟨by rfl, rfl⟩) ?_ ?_
  rotate_left
  · simp only [Act.put, List.setIfInBounds_toArray, List.set_cons_zero, List.set_cons_succ, i64_w, i32_w]
    rfl
  refine pure_ (i := 12) (N := some 61) (v := undef) (a' := ?_) #[true, true, true, true, true, true, true, true, true, true, true, true, true, false, false, false, false, false] rfl rfl (any_of HT_.out (by kernel_rfl)) (fun _ _ _ h => h) (Or.inr ⟨by rfl, rfl⟩) ?_ ?_
  rotate_left
  · simp only [Act.put, List.setIfInBounds_toArray, List.set_cons_zero, List.set_cons_succ, i64_w, i32_w]
    rfl
  refine pure_ (i := 13) (N := some 62) (v := undef) (a' := ?_) #[true, true, true, true, true, true, true, true, true, true, true, true, true, true, false, false, false, false] rfl rfl (any_of HT_.out (by kernel_rfl)) (fun _ _ _ h => h) (Or.inr ⟨by rfl, rfl⟩) ?_ ?_
  rotate_left
  · simp only [Act.put, List.setIfInBounds_toArray, List.set_cons_zero, List.set_cons_succ, i64_w, i32_w]
    rfl
  refine pure_ (i := 14) (N := some 63) (v := undef) (a' := ?_) #[true, true, true, true, true, true, true, true, true, true, true, true, true, true, true, false, false, false] rfl rfl (any_of HT_.out (by kernel_rfl)) (fun _ _ _ h => h) (Or.inr ⟨by rfl, rfl⟩) ?_ ?_
  rotate_left
  · simp only [Act.put, List.setIfInBounds_toArray, List.set_cons_zero, List.set_cons_succ, i64_w, i32_w]
    rfl
  refine pure_ (i := 15) (N := some 64) (v := undef) (a' := ?_) #[true, true, true, true, true, true, true, true, true, true, true, true, true, true, true, true, false, false] rfl rfl (any_of HT_.out (by kernel_rfl)) (fun _ _ _ h => h) (Or.inr ⟨by rfl, rfl⟩) ?_ ?_
  rotate_left
  · simp only [Act.put, List.setIfInBounds_toArray, List.set_cons_zero, List.set_cons_succ, i64_w, i32_w]
    rfl
  refine pure_ (i := 16) (N := some 65) (v := undef) (a' := ?_) #[true, true, true, true, true, true, true, true, true, true, true, true, true, true, true, true, true, false] rfl rfl (any_of HT_.out (by kernel_rfl)) (fun _ _ _ h => h) (Or.inr ⟨by rfl, rfl⟩) ?_ ?_
  rotate_left
  · simp only [Act.put, List.setIfInBounds_toArray, List.set_cons_zero, List.set_cons_succ, i64_w, i32_w]
    rfl
  refine pure_ (i := 17) (N := some 66) (v := ?_) (a' := ?_) #[true, true, true, true, true, true, true, true, true, true, true, true, true, true, true, true, true, true] rfl rfl (any_of HT_.out (by kernel_rfl)) (fun _ _ _ h => h) (Or.inl ⟨by rfl, ?_⟩) ?_ ?_
  rotate_left
  · intro w'
    go_simp
    with_reducible rfl
  rotate_left
  · simp only [Act.put, List.setIfInBounds_toArray, List.set_cons_zero, List.set_cons_succ, i64_w, i32_w]
    rfl
  refine done_ (done_of HT_.out (by kernel_rfl)) ?_
  try go_wp2
  go_roundg kj10
  case measure => have := HK1.out; have := HK2.out; have := HJ10.out; omega
  exact ⟨(y512), (wrap64 (x9_2 + 1)), (by first | rfl | (simp; done) | (simp [*]; done)), H', ⟨by have := HK1.out; have := HK2.out; have := HJ10.out; omega⟩, ⟨by (with_reducible repeat (first | apply qz | apply qx | apply qy)); exact HO514.out⟩, ⟨by (with_reducible repeat (first | refine qa ?_ _ | refine qb ?_ | refine qc ?_ _)); exact BK503.out⟩, ⟨by repeat (first | (with_reducible first | exact HB.out | apply qf | apply qn | apply qe | refine qd ?_ GE503.out) | exact HB.out)⟩⟩
 rw [if_pos c29] at H
 have c29b0 : (((rd_T23 l1 x9_2).f0) == ((rd_T23 y512 x8_1).f0) && (((rd_T23 l1 x9_2).f1) == ((rd_T23 y512 x8_1).f1) && ((((rd_T23 l1 x9_2).f2).toList) == (((rd_T23 y512 x8_1).f2).toList)))) = true := c29
 (try (have c29b1 : decide (((rd_T23 l1 x9_2).f0) = ((rd_T23 y512 x8_1).f0) && (((rd_T23 l1 x9_2).f1) == ((rd_T23 y512 x8_1).f1) && ((((rd_T23 l1 x9_2).f2).toList) == (((rd_T23 y512 x8_1).f2).toList)))) = true := by simpa using c29))
 (try (have c29b2 : (((rd_T23 l1 x9_2).f0) == ((rd_T23 y512 x8_1).f0) && (((rd_T23 l1 x9_2).f1) == ((rd_T23 y512 x8_1).f1) && ((((rd_T23 l1 x9_2).f2).toList) == (((rd_T23 y512 x8_1).f2).toList)))) = true := by simpa using c29))
 clear c29
 by_cases c30 : x9_2 < (l0.length : Int)
 rotate_left
 · rw [if_neg c30] at H
   exact absurd H (by simp)
 rw [if_pos c30] at H
 have c30b0 : decide (x9_2 < (l0.length : Int)) = true := decide_eq_true c30
 clear c30
 replace H := Option.bind_eq_some_iff.mp H
 obtain ⟨t518, A310, H⟩ := H
 replace H : (if t518 = true then (hearsayref02_Class.l1 kj10 l0 l1 y512 x8_1 (wrap64 (x9_2 + 1))) else (if y512.length < 4398046511104 then (hearsayref02_Class.l1 kj10 l0 l1 (y512 ++ [(⟨(rd_T23 l0 x9_2).f0, (rd_T23 l0 x9_2).f1, (rd_T23 l0 x9_2).f2⟩ : S23)]) x8_1 (wrap64 (x9_2 + 1))) else (none))) = some r := H
 have A31 := Aside0.mk A310
 clear A310
 by_cases c32 : t518 = true
 ·
  subst c32
  have H1 : (hearsayref02_Class.l1 kj10 l0 l1 y512 x8_1 (wrap64 (x9_2 + 1))) = some r := by rw [if_pos rfl] at H; exact H
  clear H
  have H := H1
  clear H1
  have H' := Aside0.mk H
  clear H
  have p511 : 0 ≤ (x9_2 : Int) := of_decide_eq_true (by first | (with_reducible assumption) | assumption)
  have q511 : x9_2 < (l1.length : Int) := of_decide_eq_true (by first | (with_reducible assumption) | assumption)
  obtain ⟨ad511, e511, hx511_0, hx511_1, hx511_2⟩ := at_T23 HR1.out x9_2 p511 q511
  cases e511
  replace hx511_0 := (HB.out.cell (ql w _ hx511_0)).trans hx511_0
  replace hx511_1 := (HB.out.cell (ql w _ hx511_1)).trans hx511_1
  replace hx511_2 := (HB.out.cell (ql w _ hx511_2)).trans hx511_2
  replace p511 := eq_true p511
  replace q511 := eq_true q511
  try go_wp2_with (first | ((with_reducible refine gate_builtin (b := .append) (xs := #[.tmp 42, .tmp 47]) rfl ?_); at_builtin; refine Kd.R_append k23 (w0 := w) w.heap.size rfl (.tmp 42) (.tmp 47) 24 23 (.agg #[(.int .i64 0), (.int .i64 0), (.string ⟨#[]⟩)]) 32 rfl Tryd.underlying24 info23 rfl (by decide) (by omega) u7 x7_2 (⟨(rd_T23 l1 x9_2).f0, (rd_T23 l1 x9_2).f1, (rd_T23 l1 x9_2).f2⟩ : S23) [.int .i64 ((rd_T23 l1 x9_2).f0), .int .i64 ((rd_T23 l1 x9_2).f1), .string ((rd_T23 l1 x9_2).f2)] (fun k_ => k_ ≠ gb503) (fun _ => False) rfl rfl ?aP (fun _ hk => hk.elim) ?aF ?aO ?aB ?aS ?aL ?_; (case aP => exact k23_mkM _ _ _ (⟨(rd_T23 l1 x9_2).f0, (rd_T23 l1 x9_2).f1, (rd_T23 l1 x9_2).f2⟩ : S23)); (case aB => exact (by repeat (first | (with_reducible first | exact HB.out | apply qf | apply qn | apply qe | refine qd ?_ GE503.out) | exact HB.out))); (case aF => exact (fun k_ hk => Kd.freshB (g := gb503) (o := .cells #[.int .i64 a2_0, .int .i64 a2_1, .string a2_2] 23 (0, 0)) (by (with_reducible repeat (first | refine qa ?_ _ | refine qb ?_ | refine qc ?_ _)); exact BK503.out) k_ hk)); (case aO => exact (by (with_reducible repeat (first | apply qz | apply qx | apply qy)); exact HO_7.out)); (case aS => exact (below_size (by repeat (first | (with_reducible first | exact HB.out | apply qf | apply qn | apply qe | refine qd ?_ GE503.out) | exact HB.out)))); (case aL => have := LMc26.out; omega); intro v513 w33 ho hb hg hat; rw [← Ny512.out] at ho; have n0_ := Aside0.mk (blk_grown (g := gb503) (o := .cells #[.int .i64 a2_0, .int .i64 a2_1, .string a2_2] 23 (0, 0)) (by (with_reducible repeat (first | refine qa ?_ _ | refine qb ?_ | refine qc ?_ _)); exact BK503.out) hg (Kd.R_away HO_7.out (fun _ hk => hk))); have n1_ := Aside0.mk (hb); have n2_ := Aside0.mk (ho); clear BK503; clear HB; clear HO_7; have BK503 := n0_; have HB := n1_; have HO514 := n2_; clear n0_ n1_ n2_; clear ho hb hg hat))
  have n0_ := Aside0.mk (qy HO514.out)
  have n1_ := Aside0.mk (qb BK503.out)
  have n2_ := Aside0.mk (qe HB.out)
  clear HO514
  clear BK503
  clear HB
  have HO514 := n0_
  have BK503 := n1_
  have HB := n2_
  clear n0_ n1_ n2_
  have p515 : 0 ≤ (x9_2 : Int) := of_decide_eq_true (by first | (with_reducible assumption) | assumption)
  have q515 : x9_2 < (l1.length : Int) := of_decide_eq_true (by first | (with_reducible assumption) | assumption)
  obtain ⟨ad515, e515, hx515_0, hx515_1, hx515_2⟩ := at_T23 HR1.out x9_2 p515 q515
  have hw515_2 := hx515_2
  have hw515_1 := hx515_1
  have hw515_0 := hx515_0
  obtain rfl : ad511 = ad515 := (by injection e515)
  replace hx515_0 := (HB.out.cell (ql w _ hx515_0)).trans hx515_0
  replace hx515_1 := (HB.out.cell (ql w _ hx515_1)).trans hx515_1
  replace hx515_2 := (HB.out.cell (ql w _ hx515_2)).trans hx515_2
  replace p515 := eq_true p515
  replace q515 := eq_true q515
  obtain ⟨Ao35, co35, eo35⟩ := Kd.R_slice HO514.out
  (first | subst eo35 | (injection eo35 with f1_ f2_ f3_; have f4_ := f1_.symm; have f5_ := f3_.symm; clear f1_ f2_ f3_; subst f4_; subst f5_))
  have p516 : 0 ≤ (x8_1 : Int) := of_decide_eq_true (by first | (with_reducible assumption) | assumption)
  have q516 : x8_1 < (y512.length : Int) := of_decide_eq_true (by first | (with_reducible assumption) | assumption)
  obtain ⟨ad516, e516, hx516_0, hx516_1, hx516_2⟩ := at_T23 (Kd.R_reads' HO514.out).2.2 x8_1 p516 q516
  cases e516
  replace p516 := eq_true p516
  replace q516 := eq_true q516
  have p517 : 0 ≤ (x9_2 : Int) := of_decide_eq_true (by first | (with_reducible assumption) | assumption)
  have q517 : x9_2 < (l0.length : Int) := of_decide_eq_true (by first | (with_reducible assumption) | assumption)
  obtain ⟨ad517, e517, hx517_0, hx517_1, hx517_2⟩ := at_T23 HR0.out x9_2 p517 q517
  have hw517_2 := hx517_2
  have hw517_1 := hx517_1
  have hw517_0 := hx517_0
  cases e517
  replace hx517_0 := (HB.out.cell (ql w _ hx517_0)).trans hx517_0
  replace hx517_1 := (HB.out.cell (ql w _ hx517_1)).trans hx517_1
  replace hx517_2 := (HB.out.cell (ql w _ hx517_2)).trans hx517_2
  replace p517 := eq_true p517
  replace q517 := eq_true q517
  refine start_ (n := 18) (S := fun w' => w'.cell? (ad511.add ((x9_2).toNat * 3)) = some (.int .i64 ((rd_T23 l1 x9_2).f0)) ∧ w'.cell? ⟨(ad511.add ((x9_2).toNat * 3)).block, (ad511.add ((x9_2).toNat * 3)).off + 1, none⟩ = some (.int .i64 ((rd_T23 l1 x9_2).f1)) ∧ w'.cell? ⟨(ad511.add ((x9_2).toNat * 3)).block, (ad511.add ((x9_2).toNat * 3)).off + 2, none⟩ = some (.string ((rd_T23 l1 x9_2).f2)) ∧ w'.cell? (ad516.add ((x8_1).toNat * 3)) = some (.int .i64 ((rd_T23 y512 x8_1).f0)) ∧ w'.cell? ⟨(ad516.add ((x8_1).toNat * 3)).block, (ad516.add ((x8_1).toNat * 3)).off + 1, none⟩ = some (.int .i64 ((rd_T23 y512 x8_1).f1)) ∧ w'.cell? ⟨(ad516.add ((x8_1).toNat * 3)).block, (ad516.add ((x8_1).toNat * 3)).off + 2, none⟩ = some (.string ((rd_T23 y512 x8_1).f2)) ∧ w'.cell? (ad517.add ((x9_2).toNat * 3)) = some (.int .i64 ((rd_T23 l0 x9_2).f0)) ∧ w'.cell? ⟨(ad517.add ((x9_2).toNat * 3)).block, (ad517.add ((x9_2).toNat * 3)).off + 1, none⟩ = some (.int .i64 ((rd_T23 l0 x9_2).f1)) ∧ w'.cell? ⟨(ad517.add ((x9_2).toNat * 3)).block, (ad517.add ((x9_2).toNat * 3)).off + 2, none⟩ = some (.string ((rd_T23 l0 x9_2).f2))) (ds := []) #[false, false, false, false, false, false, false, false, false, false, false, false, false, false, false, false, false, false] (by kernel_rfl) rfl rfl ⟨((HB.out.cell (ql w _ hw515_0)).trans hw515_0), ((HB.out.cell (ql w _ hw515_1)).trans hw515_1), ((HB.out.cell (ql w _ hw515_2)).trans hw515_2), hx516_0, hx516_1, hx516_2, ((HB.out.cell (ql w _ hw517_0)).trans hw517_0), ((HB.out.cell (ql w _ hw517_1)).trans hw517_1), ((HB.out.cell (ql w _ hw517_2)).trans hw517_2)⟩ (fun hHeld => ?_); refine with_tabW hearsayref02_Class.tab10 hearsayref02_Class.bits10 (fun HT_ HW_ => ?_)
  generalize w33.drew = w34 at HO514 BK503 HB hx515_0 hx515_1 hx515_2 hx516_0 hx516_1 hx516_2 hx517_0 hx517_1 hx517_2 hHeld ⊢
  refine pure_ (i := 0) (N := some 49) (v := ?_) (a' := ?_) #[true, false, false, false, false, false, false, false, false, false, false, false, false, false, false, false, false, false] rfl rfl (any_of HT_.out (by kernel_rfl)) (fun _ _ _ h => h) (Or.inl ⟨by rfl, ?_⟩) ?_ ?_
  rotate_left
  · intro w'
    go_simp
    with_reducible rfl
  rotate_left
  · simp only [Act.put, List.setIfInBounds_toArray, List.set_cons_zero, List.set_cons_succ, i64_w, i32_w]
    rfl
  refine pure_ (i := 1) (N := some 50) (v := ?_) (a' := ?_) #[true, true, false, false, false, false, false, false, false, false, false, false, false, false, false, false, false, false] rfl rfl (any_of HT_.out (by kernel_rfl)) (fun _ _ _ h => h) (Or.inl ⟨by rfl, ?_⟩) ?_ ?_
  rotate_left
  · intro w'
    go_simp
    with_reducible rfl
  rotate_left
  · simp only [Act.put, List.setIfInBounds_toArray, List.set_cons_zero, List.set_cons_succ, i64_w, i32_w]
    rfl
  refine pure_ (i := 2) (N := some 51) (v := ?_) (a' := ?_) #[true, true, true, false, false, false, false, false, false, false, false, false, false, false, false, false, false, false] rfl rfl (any_of HT_.out (by kernel_rfl)) (fun _ _ _ h => h) (Or.inl ⟨by rfl, ?_⟩) ?_ ?_
  rotate_left
  · intro w'
    go_simp
    with_reducible rfl
  rotate_left
  · simp only [Act.put, List.setIfInBounds_toArray, List.set_cons_zero, List.set_cons_succ, i64_w, i32_w]
    rfl
  refine pure_ (i := 4) (N := some 53) (v := ?_) (a' := ?_) #[true, true, true, false, true, false, false, false, false, false, false, false, false, false, false, false, false, false] rfl rfl (any_of HT_.out (by kernel_rfl)) (fun _ _ _ h => h) (Or.inl ⟨by rfl, ?_⟩) ?_ ?_
  rotate_left
  · intro w'
    go_simp
    with_reducible rfl
  rotate_left
  · simp only [Act.put, List.setIfInBounds_toArray, List.set_cons_zero, List.set_cons_succ, i64_w, i32_w]
    rfl
  refine pure_ (i := 5) (N := some 54) (v := ?_) (a' := ?_) #[true, true, true, false, true, true, false, false, false, false, false, false, false, false, false, false, false, false] rfl rfl (any_of HT_.out (by kernel_rfl)) (fun _ _ _ h => h) (Or.inl ⟨by rfl, ?_⟩) ?_ ?_
  rotate_left
  · intro w'
    go_simp
    with_reducible rfl
  rotate_left
  · simp only [Act.put, List.setIfInBounds_toArray, List.set_cons_zero, List.set_cons_succ, i64_w, i32_w]
    rfl
  refine pure_ (i := 6) (N := some 55) (v := ?_) (a' := ?_) #[true, true, true, false, true, true, true, false, false, false, false, false, false, false, false, false, false, false] rfl rfl (any_of HT_.out (by kernel_rfl)) (fun _ _ _ h => h) (Or.inl ⟨by rfl, ?_⟩) ?_ ?_
  rotate_left
  · intro w'
    go_simp
    with_reducible rfl
  rotate_left
  · simp only [Act.put, List.setIfInBounds_toArray, List.set_cons_zero, List.set_cons_succ, i64_w, i32_w]
    rfl
  refine take_ (i := 3) (N := some 52) (v := ?_) (a' := ?_) #[true, true, true, true, true, true, true, false, false, false, false, false, false, false, false, false, false, false] rfl rfl (take_ofW HT_.out HW_.out (by kernel_rfl)) (fun _ _ _ h => h) (Or.inl ⟨by rfl, ?_⟩) hHeld ?_ ?_
  rotate_left
  · rintro w' ⟨s0, s1, s2, s3, s4, s5, s6, s7, s8⟩
    go_simp
    with_reducible rfl
  rotate_left
  · simp only [Act.put, List.setIfInBounds_toArray, List.set_cons_zero, List.set_cons_succ, i64_w, i32_w]
    rfl
  refine take_ (i := 7) (N := some 56) (v := ?_) (a' := ?_) #[true, true, true, true, true, true, true, true, false, false, false, false, false, false, false, false, false, false] rfl rfl (take_ofW HT_.out HW_.out (by kernel_rfl)) (fun _ _ _ h => h) (Or.inl ⟨by rfl, ?_⟩) hHeld ?_ ?_
  rotate_left
  · rintro w' ⟨s0, s1, s2, s3, s4, s5, s6, s7, s8⟩
    go_simp
    with_reducible rfl
  rotate_left
  · simp only [Act.put, List.setIfInBounds_toArray, List.set_cons_zero, List.set_cons_succ, i64_w, i32_w]
    rfl
  refine pure_ (i := 8) (N := some 57) (v := ?_) (a' := ?_) #[true, true, true, true, true, true, true, true, true, false, false, false, false, false, false, false, false, false] rfl rfl (any_of HT_.out (by kernel_rfl)) (fun _ _ _ h => h) (Or.inl ⟨by rfl, ?_⟩) ?_ ?_
  rotate_left
  · intro w'
    go_simp
    with_reducible rfl
  rotate_left
  · simp only [Act.put, List.setIfInBounds_toArray, List.set_cons_zero, List.set_cons_succ, i64_w, i32_w]
    rfl
  refine pure_ (i := 9) (N := some 58) (v := ?_) (a' := ?_) #[true, true, true, true, true, true, true, true, true, true, false, false, false, false, false, false, false, false] rfl rfl (any_of HT_.out (by kernel_rfl)) (fun _ _ _ h => h) (Or.inl ⟨by rfl, ?_⟩) ?_ ?_
  rotate_left
  · intro w'
    go_simp
    with_reducible rfl
  rotate_left
  · simp only [Act.put, List.setIfInBounds_toArray, List.set_cons_zero, List.set_cons_succ, i64_w, i32_w]
    rfl
  refine pure_ (i := 10) (N := some 59) (v := ?_) (a' := ?_) #[true, true, true, true, true, true, true, true, true, true, true, false, false, false, false, false, false, false] rfl rfl (any_of HT_.out (by kernel_rfl)) (fun _ _ _ h => h) (Or.inl ⟨by rfl, ?_⟩) ?_ ?_
  rotate_left
  · intro w'
    go_simp
    with_reducible rfl
  rotate_left
  · simp only [Act.put, List.setIfInBounds_toArray, List.set_cons_zero, List.set_cons_succ, i64_w, i32_w]
    rfl
  refine pure_ (i := 11) (N := some 60) (v := ?_) (a' := ?_) #[true, true, true, true, true, true, true, true, true, true, true, true, false, false, false, false, false, false] rfl rfl (any_of HT_.out (by kernel_rfl)) (fun _ _ _ h => h) (Or.inl ⟨by rfl, ?_⟩) ?_ ?_
  rotate_left
  · intro w'
    go_simp
    with_reducible rfl
  rotate_left
  · simp only [Act.put, List.setIfInBounds_toArray, List.set_cons_zero, List.set_cons_succ, i64_w, i32_w]
    rfl
  refine pure_ (i := 12) (N := some 61) (v := ?_) (a' := ?_) #[true, true, true, true, true, true, true, true, true, true, true, true, true, false, false, false, false, false] rfl rfl (any_of HT_.out (by kernel_rfl)) (fun _ _ _ h => h) (Or.inl ⟨by rfl, ?_⟩) ?_ ?_
  rotate_left
  · intro w'
    go_simp
    with_reducible rfl
  rotate_left
  · simp only [Act.put, List.setIfInBounds_toArray, List.set_cons_zero, List.set_cons_succ, i64_w, i32_w]
    rfl
  refine pure_ (i := 13) (N := some 62) (v := ?_) (a' := ?_) #[true, true, true, true, true, true, true, true, true, true, true, true, true, true, false, false, false, false] rfl rfl (any_of HT_.out (by kernel_rfl)) (fun _ _ _ h => h) (Or.inl ⟨by rfl, ?_⟩) ?_ ?_
  rotate_left
  · intro w'
    go_simp
    with_reducible rfl
  rotate_left
  · simp only [Act.put, List.setIfInBounds_toArray, List.set_cons_zero, List.set_cons_succ, i64_w, i32_w]
    rfl
  refine take_ (i := 14) (N := some 63) (v := ?_) (a' := ?_) #[true, true, true, true, true, true, true, true, true, true, true, true, true, true, true, false, false, false] rfl rfl (take_ofW HT_.out HW_.out (by kernel_rfl)) (fun _ _ _ h => h) (Or.inl ⟨by rfl, ?_⟩) hHeld ?_ ?_
  rotate_left
  · rintro w' ⟨s0, s1, s2, s3, s4, s5, s6, s7, s8⟩
    go_simp
    with_reducible rfl
  rotate_left
  · simp only [Act.put, List.setIfInBounds_toArray, List.set_cons_zero, List.set_cons_succ, i64_w, i32_w]
    rfl
  refine one_ (i := 15) (N := some 64) #[true, true, true, true, true, true, true, true, true, true, true, true, true, true, true, true, false, false] rfl rfl (one_of HT_.out (by kernel_rfl)) (by decide) (fun K hK => ?_)
  refine goes_ Tryd.func84 (by kernel_rfl) rfl #[.slice (some ad516) y512.length co35, .agg #[.int .i64 ((rd_T23 l0 x9_2).f0), .int .i64 ((rd_T23 l0 x9_2).f1), .string ((rd_T23 l0 x9_2).f2)]] (by rfl) rfl rfl (by (try simp only [List.map_toArray, List.map_cons, List.map_nil]); first | done | rfl | (simp only [List.length_drop, List.length_take]; rfl)) ?_
  with_reducible refine (hearsayref02_holds.calls kj10 _ _ y512 ((rd_T23 l0 x9_2).f0) ((rd_T23 l0 x9_2).f1) ((rd_T23 l0 x9_2).f2) true _ ?side1 ?side2 A31.out).mono ?_
  (case side1 => repeat (first | exact (Kd.R_reads' HO514.out).2.2 | (with_reducible refine Kd.C_alloc ?_ _) | (with_reducible refine Kd.C_drewN ?_ _) | (with_reducible refine Kd.C_drew ?_)))
  (case side2 => exact (Kd.R_reads' HO514.out).2.1)
  rintro e w36 ⟨rfl, hb⟩
  have HS3_ := (hb.cell (ql _ _ (hHeld.2.2.2.1))).trans (hHeld.2.2.2.1)
  have HS4_ := (hb.cell (ql _ _ (hHeld.2.2.2.2.1))).trans (hHeld.2.2.2.2.1)
  have HS5_ := (hb.cell (ql _ _ (hHeld.2.2.2.2.2.1))).trans (hHeld.2.2.2.2.2.1)
  refine ⟨_, rfl, ?_⟩
  have n0_ := Aside0.mk (Kd.R_below (by (with_reducible repeat (first | apply qz | apply qx | apply qy)); exact HO514.out) hb)
  have n1_ := Aside0.mk (blk_below (g := gb503) (o := .cells #[.int .i64 a2_0, .int .i64 a2_1, .string a2_2] 23 (0, 0)) (by (with_reducible repeat (first | refine qa ?_ _ | refine qb ?_ | refine qc ?_ _)); exact BK503.out) hb)
  have n2_ := Aside0.mk (below_step (by repeat (first | (with_reducible first | exact HB.out | apply qf | apply qn | apply qe | refine qd ?_ GE503.out) | exact HB.out)) hb)
  clear HO514
  clear BK503
  clear HB
  have HO514 := n0_
  have BK503 := n1_
  have HB := n2_
  clear n0_ n1_ n2_
  (try clear hb)
  (try clear hb2)
  (try clear hk)
  (try clear hi)
  refine hK.out _ _ ⟨((HB.out.cell (ql w _ hw515_0)).trans hw515_0), ((HB.out.cell (ql w _ hw515_1)).trans hw515_1), ((HB.out.cell (ql w _ hw515_2)).trans hw515_2), HS3_, HS4_, HS5_, ((HB.out.cell (ql w _ hw517_0)).trans hw517_0), ((HB.out.cell (ql w _ hw517_1)).trans hw517_1), ((HB.out.cell (ql w _ hw517_2)).trans hw517_2)⟩ (fun hHeld => ?_)
  clear hK K
  refine norm_ (a' := ?_) ?_ ?_
  rotate_left
  · show Act.put _ (some 64) _ = _
    simp only [Act.put, List.setIfInBounds_toArray, List.set_cons_zero, List.set_cons_succ, i64_w, i32_w]
    rfl
  refine pure_ (i := 16) (N := some 65) (v := ?_) (a' := ?_) #[true, true, true, true, true, true, true, true, true, true, true, true, true, true, true, true, true, false] rfl rfl (any_of HT_.out (by kernel_rfl)) (fun _ _ _ h => h) (Or.inl ⟨by rfl, ?_⟩) ?_ ?_
  rotate_left
  · intro w'
    go_simp
    with_reducible rfl
  rotate_left
  · simp only [Act.put, List.setIfInBounds_toArray, List.set_cons_zero, List.set_cons_succ, i64_w, i32_w]
    rfl
  refine pure_ (i := 17) (N := some 66) (v := ?_) (a' := ?_) #[true, true, true, true, true, true, true, true, true, true, true, true, true, true, true, true, true, true] rfl rfl (any_of HT_.out (by kernel_rfl)) (fun _ _ _ h => h) (Or.inl ⟨by rfl, ?_⟩) ?_ ?_
  rotate_left
  · intro w'
    go_simp
    with_reducible rfl
  rotate_left
  · simp only [Act.put, List.setIfInBounds_toArray, List.set_cons_zero, List.set_cons_succ, i64_w, i32_w]
    rfl
  refine done_ (done_of HT_.out (by kernel_rfl)) ?_
  try go_wp2
  go_roundg kj10
  case measure => have := HK1.out; have := HK2.out; have := HJ10.out; omega
  exact ⟨(y512), (wrap64 (x9_2 + 1)), (by first | rfl | (simp; done) | (simp [*]; done)), H', ⟨by have := HK1.out; have := HK2.out; have := HJ10.out; omega⟩, ⟨by (with_reducible repeat (first | apply qz | apply qx | apply qy)); exact HO514.out⟩, ⟨by (with_reducible repeat (first | refine qa ?_ _ | refine qb ?_ | refine qc ?_ _)); exact BK503.out⟩, ⟨by repeat (first | (with_reducible first | exact HB.out | apply qf | apply qn | apply qe | refine qd ?_ GE503.out) | exact HB.out)⟩⟩
 replace c32 := Bool.eq_false_iff.mpr c32
 subst c32
 have H1 : (if y512.length < 4398046511104 then (hearsayref02_Class.l1 kj10 l0 l1 (y512 ++ [(⟨(rd_T23 l0 x9_2).f0, (rd_T23 l0 x9_2).f1, (rd_T23 l0 x9_2).f2⟩ : S23)]) x8_1 (wrap64 (x9_2 + 1))) else (none)) = some r := by rw [if_neg (show ¬ (false = true) by decide)] at H; exact H
 clear H
 have H := H1
 clear H1
 by_cases c37 : y512.length < 4398046511104
 rotate_left
 · rw [if_neg c37] at H
   exact absurd H (by simp)
 rw [if_pos c37] at H
 have LMc37 := Aside0.mk c37
 clear c37
 obtain ⟨y520, hy520⟩ : ∃ y_ : List (S23), y_ = (y512 ++ [(⟨(rd_T23 l0 x9_2).f0, (rd_T23 l0 x9_2).f1, (rd_T23 l0 x9_2).f2⟩ : S23)]) := ⟨_, rfl⟩
 replace H : (hearsayref02_Class.l1 kj10 l0 l1 y520 x8_1 (wrap64 (x9_2 + 1))) = some r := by first | (rw [hy520]; with_reducible exact H) | (have H2_ := (Option.bind_some _ _).symm.trans H; rw [hy520]; with_reducible exact H2_) | (have H2_ := (Option.bind_some _ _).symm.trans H; with_reducible exact H2_) | with_reducible exact H | (rw [hy520]; exact H) | exact H
 have Ny520 := Aside0.mk hy520
 clear hy520
 have H' := Aside0.mk H
 clear H
 have p511 : 0 ≤ (x9_2 : Int) := of_decide_eq_true (by first | (with_reducible assumption) | assumption)
 have q511 : x9_2 < (l1.length : Int) := of_decide_eq_true (by first | (with_reducible assumption) | assumption)
 obtain ⟨ad511, e511, hx511_0, hx511_1, hx511_2⟩ := at_T23 HR1.out x9_2 p511 q511
 cases e511
 replace hx511_0 := (HB.out.cell (ql w _ hx511_0)).trans hx511_0
 replace hx511_1 := (HB.out.cell (ql w _ hx511_1)).trans hx511_1
 replace hx511_2 := (HB.out.cell (ql w _ hx511_2)).trans hx511_2
 replace p511 := eq_true p511
 replace q511 := eq_true q511
 try go_wp2_with (first | ((with_reducible refine gate_builtin (b := .append) (xs := #[.tmp 42, .tmp 47]) rfl ?_); at_builtin; refine Kd.R_append k23 (w0 := w) w.heap.size rfl (.tmp 42) (.tmp 47) 24 23 (.agg #[(.int .i64 0), (.int .i64 0), (.string ⟨#[]⟩)]) 32 rfl Tryd.underlying24 info23 rfl (by decide) (by omega) u7 x7_2 (⟨(rd_T23 l1 x9_2).f0, (rd_T23 l1 x9_2).f1, (rd_T23 l1 x9_2).f2⟩ : S23) [.int .i64 ((rd_T23 l1 x9_2).f0), .int .i64 ((rd_T23 l1 x9_2).f1), .string ((rd_T23 l1 x9_2).f2)] (fun k_ => k_ ≠ gb503) (fun _ => False) rfl rfl ?aP (fun _ hk => hk.elim) ?aF ?aO ?aB ?aS ?aL ?_; (case aP => exact k23_mkM _ _ _ (⟨(rd_T23 l1 x9_2).f0, (rd_T23 l1 x9_2).f1, (rd_T23 l1 x9_2).f2⟩ : S23)); (case aB => exact (by repeat (first | (with_reducible first | exact HB.out | apply qf | apply qn | apply qe | refine qd ?_ GE503.out) | exact HB.out))); (case aF => exact (fun k_ hk => Kd.freshB (g := gb503) (o := .cells #[.int .i64 a2_0, .int .i64 a2_1, .string a2_2] 23 (0, 0)) (by (with_reducible repeat (first | refine qa ?_ _ | refine qb ?_ | refine qc ?_ _)); exact BK503.out) k_ hk)); (case aO => exact (by (with_reducible repeat (first | apply qz | apply qx | apply qy)); exact HO_7.out)); (case aS => exact (below_size (by repeat (first | (with_reducible first | exact HB.out | apply qf | apply qn | apply qe | refine qd ?_ GE503.out) | exact HB.out)))); (case aL => have := LMc26.out; omega); intro v513 w38 ho hb hg hat; rw [← Ny512.out] at ho; have n0_ := Aside0.mk (blk_grown (g := gb503) (o := .cells #[.int .i64 a2_0, .int .i64 a2_1, .string a2_2] 23 (0, 0)) (by (with_reducible repeat (first | refine qa ?_ _ | refine qb ?_ | refine qc ?_ _)); exact BK503.out) hg (Kd.R_away HO_7.out (fun _ hk => hk))); have n1_ := Aside0.mk (hb); have n2_ := Aside0.mk (ho); clear BK503; clear HB; clear HO_7; have BK503 := n0_; have HB := n1_; have HO514 := n2_; clear n0_ n1_ n2_; clear ho hb hg hat))
 have n0_ := Aside0.mk (qy HO514.out)
 have n1_ := Aside0.mk (qb BK503.out)
 have n2_ := Aside0.mk (qe HB.out)
 clear HO514
 clear BK503
 clear HB
 have HO514 := n0_
 have BK503 := n1_
 have HB := n2_
 clear n0_ n1_ n2_
 have p515 : 0 ≤ (x9_2 : Int) := of_decide_eq_true (by first | (with_reducible assumption) | assumption)
 have q515 : x9_2 < (l1.length : Int) := of_decide_eq_true (by first | (with_reducible assumption) | assumption)
 obtain ⟨ad515, e515, hx515_0, hx515_1, hx515_2⟩ := at_T23 HR1.out x9_2 p515 q515
 have hw515_2 := hx515_2
 have hw515_1 := hx515_1
 have hw515_0 := hx515_0
 obtain rfl : ad511 = ad515 := (by injection e515)
 replace hx515_0 := (HB.out.cell (ql w _ hx515_0)).trans hx515_0
 replace hx515_1 := (HB.out.cell (ql w _ hx515_1)).trans hx515_1
 replace hx515_2 := (HB.out.cell (ql w _ hx515_2)).trans hx515_2
 replace p515 := eq_true p515
 replace q515 := eq_true q515
 obtain ⟨Ao40, co40, eo40⟩ := Kd.R_slice HO514.out
 (first | subst eo40 | (injection eo40 with f1_ f2_ f3_; have f4_ := f1_.symm; have f5_ := f3_.symm; clear f1_ f2_ f3_; subst f4_; subst f5_))
 have p516 : 0 ≤ (x8_1 : Int) := of_decide_eq_true (by first | (with_reducible assumption) | assumption)
 have q516 : x8_1 < (y512.length : Int) := of_decide_eq_true (by first | (with_reducible assumption) | assumption)
 obtain ⟨ad516, e516, hx516_0, hx516_1, hx516_2⟩ := at_T23 (Kd.R_reads' HO514.out).2.2 x8_1 p516 q516
 cases e516
 replace p516 := eq_true p516
 replace q516 := eq_true q516
 have p517 : 0 ≤ (x9_2 : Int) := of_decide_eq_true (by first | (with_reducible assumption) | assumption)
 have q517 : x9_2 < (l0.length : Int) := of_decide_eq_true (by first | (with_reducible assumption) | assumption)
 obtain ⟨ad517, e517, hx517_0, hx517_1, hx517_2⟩ := at_T23 HR0.out x9_2 p517 q517
 have hw517_2 := hx517_2
 have hw517_1 := hx517_1
 have hw517_0 := hx517_0
 cases e517
 replace hx517_0 := (HB.out.cell (ql w _ hx517_0)).trans hx517_0
 replace hx517_1 := (HB.out.cell (ql w _ hx517_1)).trans hx517_1
 replace hx517_2 := (HB.out.cell (ql w _ hx517_2)).trans hx517_2
 replace p517 := eq_true p517
 replace q517 := eq_true q517
 refine start_ (n := 18) (S := fun w' => w'.cell? (ad511.add ((x9_2).toNat * 3)) = some (.int .i64 ((rd_T23 l1 x9_2).f0)) ∧ w'.cell? ⟨(ad511.add ((x9_2).toNat * 3)).block, (ad511.add ((x9_2).toNat * 3)).off + 1, none⟩ = some (.int .i64 ((rd_T23 l1 x9_2).f1)) ∧ w'.cell? ⟨(ad511.add ((x9_2).toNat * 3)).block, (ad511.add ((x9_2).toNat * 3)).off + 2, none⟩ = some (.string ((rd_T23 l1 x9_2).f2)) ∧ w'.cell? (ad516.add ((x8_1).toNat * 3)) = some (.int .i64 ((rd_T23 y512 x8_1).f0)) ∧ w'.cell? ⟨(ad516.add ((x8_1).toNat * 3)).block, (ad516.add ((x8_1).toNat * 3)).off + 1, none⟩ = some (.int .i64 ((rd_T23 y512 x8_1).f1)) ∧ w'.cell? ⟨(ad516.add ((x8_1).toNat * 3)).block, (ad516.add ((x8_1).toNat * 3)).off + 2, none⟩ = some (.string ((rd_T23 y512 x8_1).f2)) ∧ w'.cell? (ad517.add ((x9_2).toNat * 3)) = some (.int .i64 ((rd_T23 l0 x9_2).f0)) ∧ w'.cell? ⟨(ad517.add ((x9_2).toNat * 3)).block, (ad517.add ((x9_2).toNat * 3)).off + 1, none⟩ = some (.int .i64 ((rd_T23 l0 x9_2).f1)) ∧ w'.cell? ⟨(ad517.add ((x9_2).toNat * 3)).block, (ad517.add ((x9_2).toNat * 3)).off + 2, none⟩ = some (.string ((rd_T23 l0 x9_2).f2))) (ds := []) #[false, false, false, false, false, false, false, false, false, false, false, false, false, false, false, false, false, false] (by kernel_rfl) rfl rfl ⟨((HB.out.cell (ql w _ hw515_0)).trans hw515_0), ((HB.out.cell (ql w _ hw515_1)).trans hw515_1), ((HB.out.cell (ql w _ hw515_2)).trans hw515_2), hx516_0, hx516_1, hx516_2, ((HB.out.cell (ql w _ hw517_0)).trans hw517_0), ((HB.out.cell (ql w _ hw517_1)).trans hw517_1), ((HB.out.cell (ql w _ hw517_2)).trans hw517_2)⟩ (fun hHeld => ?_); refine with_tabW hearsayref02_Class.tab10 hearsayref02_Class.bits10 (fun HT_ HW_ => ?_)
 generalize w38.drew = w39 at HO514 BK503 HB hx515_0 hx515_1 hx515_2 hx516_0 hx516_1 hx516_2 hx517_0 hx517_1 hx517_2 hHeld ⊢
 refine pure_ (i := 0) (N := some 49) (v := ?_) (a' := ?_) #[true, false, false, false, false, false, false, false, false, false, false, false, false, false, false, false, false, false] rfl rfl (any_of HT_.out (by kernel_rfl)) (fun _ _ _ h => h) (Or.inl ⟨by rfl, ?_⟩) ?_ ?_
 rotate_left
 · intro w'
   go_simp
   with_reducible rfl
 rotate_left
 · simp only [Act.put, List.setIfInBounds_toArray, List.set_cons_zero, List.set_cons_succ, i64_w, i32_w]
   rfl
 refine pure_ (i := 1) (N := some 50) (v := ?_) (a' := ?_) #[true, true, false, false, false, false, false, false, false, false, false, false, false, false, false, false, false, false] rfl rfl (any_of HT_.out (by kernel_rfl)) (fun _ _ _ h => h) (Or.inl ⟨by rfl, ?_⟩) ?_ ?_
 rotate_left
 · intro w'
   go_simp
   with_reducible rfl
 rotate_left
 · simp only [Act.put, List.setIfInBounds_toArray, List.set_cons_zero, List.set_cons_succ, i64_w, i32_w]
   rfl
 refine pure_ (i := 2) (N := some 51) (v := ?_) (a' := ?_) #[true, true, true, false, false, false, false, false, false, false, false, false, false, false, false, false, false, false] rfl rfl (any_of HT_.out (by kernel_rfl)) (fun _ _ _ h => h) (Or.inl ⟨by rfl, ?_⟩) ?_ ?_
 rotate_left
 · intro w'
   go_simp
   with_reducible rfl
 rotate_left
 · simp only [Act.put, List.setIfInBounds_toArray, List.set_cons_zero, List.set_cons_succ, i64_w, i32_w]
   rfl
 refine pure_ (i := 4) (N := some 53) (v := ?_) (a' := ?_) #[true, true, true, false, true, false, false, false, false, false, false, false, false, false, false, false, false, false] rfl rfl (any_of HT_.out (by kernel_rfl)) (fun _ _ _ h => h) (Or.inl ⟨by rfl, ?_⟩) ?_ ?_
 rotate_left
 · intro w'
   go_simp
   with_reducible rfl
 rotate_left
 · simp only [Act.put, List.setIfInBounds_toArray, List.set_cons_zero, List.set_cons_succ, i64_w, i32_w]
   rfl
 refine pure_ (i := 5) (N := some 54) (v := ?_) (a' := ?_) #[true, true, true, false, true, true, false, false, false, false, false, false, false, false, false, false, false, false] rfl rfl (any_of HT_.out (by kernel_rfl)) (fun _ _ _ h => h) (Or.inl ⟨by rfl, ?_⟩) ?_ ?_
 rotate_left
 · intro w'
   go_simp
   with_reducible rfl
 rotate_left
 · simp only [Act.put, List.setIfInBounds_toArray, List.set_cons_zero, List.set_cons_succ, i64_w, i32_w]
   rfl
 refine pure_ (i := 6) (N := some 55) (v := ?_) (a' := ?_) #[true, true, true, false, true, true, true, false, false, false, false, false, false, false, false, false, false, false] rfl rfl (any_of HT_.out (by kernel_rfl)) (fun _ _ _ h => h) (Or.inl ⟨by rfl, ?_⟩) ?_ ?_
 rotate_left
 · intro w'
   go_simp
   with_reducible rfl
 rotate_left
 · simp only [Act.put, List.setIfInBounds_toArray, List.set_cons_zero, List.set_cons_succ, i64_w, i32_w]
   rfl
 refine take_ (i := 3) (N := some 52) (v := ?_) (a' := ?_) #[true, true, true, true, true, true, true, false, false, false, false, false, false, false, false, false, false, false] rfl rfl (take_ofW HT_.out HW_.out (by kernel_rfl)) (fun _ _ _ h => h) (Or.inl ⟨by rfl, ?_⟩) hHeld ?_ ?_
 rotate_left
 · rintro w' ⟨s0, s1, s2, s3, s4, s5, s6, s7, s8⟩
   go_simp
   with_reducible rfl
 rotate_left
 · simp only [Act.put, List.setIfInBounds_toArray, List.set_cons_zero, List.set_cons_succ, i64_w, i32_w]
   rfl
 refine take_ (i := 7) (N := some 56) (v := ?_) (a' := ?_) #[true, true, true, true, true, true, true, true, false, false, false, false, false, false, false, false, false, false] rfl rfl (take_ofW HT_.out HW_.out (by kernel_rfl)) (fun _ _ _ h => h) (Or.inl ⟨by rfl, ?_⟩) hHeld ?_ ?_
 rotate_left
 · rintro w' ⟨s0, s1, s2, s3, s4, s5, s6, s7, s8⟩
   go_simp
   with_reducible rfl
 rotate_left
 · simp only [Act.put, List.setIfInBounds_toArray, List.set_cons_zero, List.set_cons_succ, i64_w, i32_w]
   rfl
 refine pure_ (i := 8) (N := some 57) (v := ?_) (a' := ?_) #[true, true, true, true, true, true, true, true, true, false, false, false, false, false, false, false, false, false] rfl rfl (any_of HT_.out (by kernel_rfl)) (fun _ _ _ h => h) (Or.inl ⟨by rfl, ?_⟩) ?_ ?_
 rotate_left
 · intro w'
   go_simp
   with_reducible rfl
 rotate_left
 · simp only [Act.put, List.setIfInBounds_toArray, List.set_cons_zero, List.set_cons_succ, i64_w, i32_w]
   rfl
 refine pure_ (i := 9) (N := some 58) (v := ?_) (a' := ?_) #[true, true, true, true, true, true, true, true, true, true, false, false, false, false, false, false, false, false] rfl rfl (any_of HT_.out (by kernel_rfl)) (fun _ _ _ h => h) (Or.inl ⟨by rfl, ?_⟩) ?_ ?_
 rotate_left
 · intro w'
   go_simp
   with_reducible rfl
 rotate_left
 · simp only [Act.put, List.setIfInBounds_toArray, List.set_cons_zero, List.set_cons_succ, i64_w, i32_w]
   rfl
 refine pure_ (i := 10) (N := some 59) (v := ?_) (a' := ?_) #[true, true, true, true, true, true, true, true, true, true, true, false, false, false, false, false, false, false] rfl rfl (any_of HT_.out (by kernel_rfl)) (fun _ _ _ h => h) (Or.inl ⟨by rfl, ?_⟩) ?_ ?_
 rotate_left
 · intro w'
   go_simp
   with_reducible rfl
 rotate_left
 · simp only [Act.put, List.setIfInBounds_toArray, List.set_cons_zero, List.set_cons_succ, i64_w, i32_w]
   rfl
 refine pure_ (i := 11) (N := some 60) (v := ?_) (a' := ?_) #[true, true, true, true, true, true, true, true, true, true, true, true, false, false, false, false, false, false] rfl rfl (any_of HT_.out (by kernel_rfl)) (fun _ _ _ h => h) (Or.inl ⟨by rfl, ?_⟩) ?_ ?_
 rotate_left
 · intro w'
   go_simp
   with_reducible rfl
 rotate_left
 · simp only [Act.put, List.setIfInBounds_toArray, List.set_cons_zero, List.set_cons_succ, i64_w, i32_w]
   rfl
 refine pure_ (i := 12) (N := some 61) (v := ?_) (a' := ?_) #[true, true, true, true, true, true, true, true, true, true, true, true, true, false, false, false, false, false] rfl rfl (any_of HT_.out (by kernel_rfl)) (fun _ _ _ h => h) (Or.inl ⟨by rfl, ?_⟩) ?_ ?_
 rotate_left
 · intro w'
   go_simp
   with_reducible rfl
 rotate_left
 · simp only [Act.put, List.setIfInBounds_toArray, List.set_cons_zero, List.set_cons_succ, i64_w, i32_w]
   rfl
 refine pure_ (i := 13) (N := some 62) (v := ?_) (a' := ?_) #[true, true, true, true, true, true, true, true, true, true, true, true, true, true, false, false, false, false] rfl rfl (any_of HT_.out (by kernel_rfl)) (fun _ _ _ h => h) (Or.inl ⟨by rfl, ?_⟩) ?_ ?_
 rotate_left
 · intro w'
   go_simp
   with_reducible rfl
 rotate_left
 · simp only [Act.put, List.setIfInBounds_toArray, List.set_cons_zero, List.set_cons_succ, i64_w, i32_w]
   rfl
 refine take_ (i := 14) (N := some 63) (v := ?_) (a' := ?_) #[true, true, true, true, true, true, true, true, true, true, true, true, true, true, true, false, false, false] rfl rfl (take_ofW HT_.out HW_.out (by kernel_rfl)) (fun _ _ _ h => h) (Or.inl ⟨by rfl, ?_⟩) hHeld ?_ ?_
 rotate_left
 · rintro w' ⟨s0, s1, s2, s3, s4, s5, s6, s7, s8⟩
   go_simp
   with_reducible rfl
 rotate_left
 · simp only [Act.put, List.setIfInBounds_toArray, List.set_cons_zero, List.set_cons_succ, i64_w, i32_w]
   rfl
 refine one_ (i := 15) (N := some 64) #[true, true, true, true, true, true, true, true, true, true, true, true, true, true, true, true, false, false] rfl rfl (one_of HT_.out (by kernel_rfl)) (by decide) (fun K hK => ?_)
 refine goes_ Tryd.func84 (by kernel_rfl) rfl #[.slice (some ad516) y512.length co40, .agg #[.int .i64 ((rd_T23 l0 x9_2).f0), .int .i64 ((rd_T23 l0 x9_2).f1), .string ((rd_T23 l0 x9_2).f2)]] (by rfl) rfl rfl (by (try simp only [List.map_toArray, List.map_cons, List.map_nil]); first | done | rfl | (simp only [List.length_drop, List.length_take]; rfl)) ?_
 with_reducible refine (hearsayref02_holds.calls kj10 _ _ y512 ((rd_T23 l0 x9_2).f0) ((rd_T23 l0 x9_2).f1) ((rd_T23 l0 x9_2).f2) false _ ?side1 ?side2 A31.out).mono ?_
 (case side1 => repeat (first | exact (Kd.R_reads' HO514.out).2.2 | (with_reducible refine Kd.C_alloc ?_ _) | (with_reducible refine Kd.C_drewN ?_ _) | (with_reducible refine Kd.C_drew ?_)))
 (case side2 => exact (Kd.R_reads' HO514.out).2.1)
 rintro e w41 ⟨rfl, hb⟩
 have HS3_ := (hb.cell (ql _ _ (hHeld.2.2.2.1))).trans (hHeld.2.2.2.1)
 have HS4_ := (hb.cell (ql _ _ (hHeld.2.2.2.2.1))).trans (hHeld.2.2.2.2.1)
 have HS5_ := (hb.cell (ql _ _ (hHeld.2.2.2.2.2.1))).trans (hHeld.2.2.2.2.2.1)
 refine ⟨_, rfl, ?_⟩
 have n0_ := Aside0.mk (Kd.R_below (by (with_reducible repeat (first | apply qz | apply qx | apply qy)); exact HO514.out) hb)
 have n1_ := Aside0.mk (blk_below (g := gb503) (o := .cells #[.int .i64 a2_0, .int .i64 a2_1, .string a2_2] 23 (0, 0)) (by (with_reducible repeat (first | refine qa ?_ _ | refine qb ?_ | refine qc ?_ _)); exact BK503.out) hb)
 have n2_ := Aside0.mk (below_step (by repeat (first | (with_reducible first | exact HB.out | apply qf | apply qn | apply qe | refine qd ?_ GE503.out) | exact HB.out)) hb)
 clear HO514
 clear BK503
 clear HB
 have HO514 := n0_
 have BK503 := n1_
 have HB := n2_
 clear n0_ n1_ n2_
 (try clear hb)
 (try clear hb2)
 (try clear hk)
 (try clear hi)
 refine hK.out _ _ ⟨((HB.out.cell (ql w _ hw515_0)).trans hw515_0), ((HB.out.cell (ql w _ hw515_1)).trans hw515_1), ((HB.out.cell (ql w _ hw515_2)).trans hw515_2), HS3_, HS4_, HS5_, ((HB.out.cell (ql w _ hw517_0)).trans hw517_0), ((HB.out.cell (ql w _ hw517_1)).trans hw517_1), ((HB.out.cell (ql w _ hw517_2)).trans hw517_2)⟩ (fun hHeld => ?_)
 clear hK K
 refine norm_ (a' := ?_) ?_ ?_
 rotate_left
 · show Act.put _ (some 64) _ = _
   simp only [Act.put, List.setIfInBounds_toArray, List.set_cons_zero, List.set_cons_succ, i64_w, i32_w]
   rfl
 refine pure_ (i := 16) (N := some 65) (v := ?_) (a' := ?_) #[true, true, true, true, true, true, true, true, true, true, true, true, true, true, true, true, true, false] rfl rfl (any_of HT_.out (by kernel_rfl)) (fun _ _ _ h => h) (Or.inl ⟨by rfl, ?_⟩) ?_ ?_
 rotate_left
 · intro w'
   go_simp
   with_reducible rfl
 rotate_left
 · simp only [Act.put, List.setIfInBounds_toArray, List.set_cons_zero, List.set_cons_succ, i64_w, i32_w]
   rfl
 refine pure_ (i := 17) (N := some 66) (v := ?_) (a' := ?_) #[true, true, true, true, true, true, true, true, true, true, true, true, true, true, true, true, true, true] rfl rfl (any_of HT_.out (by kernel_rfl)) (fun _ _ _ h => h) (Or.inl ⟨by rfl, ?_⟩) ?_ ?_
 rotate_left
 · intro w'
   go_simp
   with_reducible rfl
 rotate_left
 · simp only [Act.put, List.setIfInBounds_toArray, List.set_cons_zero, List.set_cons_succ, i64_w, i32_w]
   rfl
 refine done_ (done_of HT_.out (by kernel_rfl)) ?_
 have p519 : 0 ≤ (x9_2 : Int) := of_decide_eq_true (by first | (with_reducible assumption) | assumption)
 have q519 : x9_2 < (l0.length : Int) := of_decide_eq_true (by first | (with_reducible assumption) | assumption)
 obtain ⟨ad519, e519, hx519_0, hx519_1, hx519_2⟩ := at_T23 HR0.out x9_2 p519 q519
 obtain rfl : ad517 = ad519 := (by injection e519)
 replace hx519_0 := (HB.out.cell (ql w _ hx519_0)).trans hx519_0
 replace hx519_1 := (HB.out.cell (ql w _ hx519_1)).trans hx519_1
 replace hx519_2 := (HB.out.cell (ql w _ hx519_2)).trans hx519_2
 replace p519 := eq_true p519
 replace q519 := eq_true q519
 try go_wp2_with (first | ((with_reducible refine gate_builtin (b := .append) (xs := #[.tmp 67, .tmp 72]) rfl ?_); at_builtin; refine Kd.R_append k23 (w0 := w) w.heap.size rfl (.tmp 67) (.tmp 72) 24 23 (.agg #[(.int .i64 0), (.int .i64 0), (.string ⟨#[]⟩)]) 32 rfl Tryd.underlying24 info23 rfl (by decide) (by omega) (.slice (some ad516) y512.length co40) y512 (⟨(rd_T23 l0 x9_2).f0, (rd_T23 l0 x9_2).f1, (rd_T23 l0 x9_2).f2⟩ : S23) [.int .i64 ((rd_T23 l0 x9_2).f0), .int .i64 ((rd_T23 l0 x9_2).f1), .string ((rd_T23 l0 x9_2).f2)] (fun k_ => k_ ≠ gb503) (fun _ => False) rfl rfl ?aP (fun _ hk => hk.elim) ?aF ?aO ?aB ?aS ?aL ?_; (case aP => exact k23_mkM _ _ _ (⟨(rd_T23 l0 x9_2).f0, (rd_T23 l0 x9_2).f1, (rd_T23 l0 x9_2).f2⟩ : S23)); (case aB => exact (by repeat (first | (with_reducible first | exact HB.out | apply qf | apply qn | apply qe | refine qd ?_ GE503.out) | exact HB.out))); (case aF => exact (fun k_ hk => Kd.freshB (g := gb503) (o := .cells #[.int .i64 a2_0, .int .i64 a2_1, .string a2_2] 23 (0, 0)) (by (with_reducible repeat (first | refine qa ?_ _ | refine qb ?_ | refine qc ?_ _)); exact BK503.out) k_ hk)); (case aO => exact (by (with_reducible repeat (first | apply qz | apply qx | apply qy)); exact HO514.out)); (case aS => exact (below_size (by repeat (first | (with_reducible first | exact HB.out | apply qf | apply qn | apply qe | refine qd ?_ GE503.out) | exact HB.out)))); (case aL => have := LMc37.out; omega); intro v521 w42 ho hb hg hat; rw [← Ny520.out] at ho; have n0_ := Aside0.mk (blk_grown (g := gb503) (o := .cells #[.int .i64 a2_0, .int .i64 a2_1, .string a2_2] 23 (0, 0)) (by (with_reducible repeat (first | refine qa ?_ _ | refine qb ?_ | refine qc ?_ _)); exact BK503.out) hg (Kd.R_away HO514.out (fun _ hk => hk))); have n1_ := Aside0.mk (hb); have n2_ := Aside0.mk (ho); clear BK503; clear HB; clear HO514; have BK503 := n0_; have HB := n1_; have HO522 := n2_; clear n0_ n1_ n2_; clear ho hb hg hat))
 go_roundg kj10
 case measure => have := HK1.out; have := HK2.out; have := HJ10.out; omega
 exact ⟨(y520), (wrap64 (x9_2 + 1)), (by first | rfl | (simp; done) | (simp [*]; done)), H', ⟨by have := HK1.out; have := HK2.out; have := HJ10.out; omega⟩, ⟨by (with_reducible repeat (first | apply qz | apply qx | apply qy)); exact HO522.out⟩, ⟨by (with_reducible repeat (first | refine qa ?_ _ | refine qb ?_ | refine qc ?_ _)); exact BK503.out⟩, ⟨by repeat (first | (with_reducible first | exact HB.out | apply qf | apply qn | apply qe | refine qd ?_ GE503.out) | exact HB.out)⟩⟩
end Go.Proofs.YtnomgmlfagiffaaDoor.T
