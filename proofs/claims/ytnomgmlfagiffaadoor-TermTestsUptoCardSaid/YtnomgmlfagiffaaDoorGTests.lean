/- The walk of TermTests. -/
import Derived.Test.YtnomgmlfagiffaaDoorPureC
import Derived.Test.YtnomgmlfagiffaaDoorPureFirst
import Derived.Test.YtnomgmlfagiffaaDoorGSpare
set_option linter.unusedVariables false
set_option linter.unusedSimpArgs false
namespace Go.Proofs.YtnomgmlfagiffaaDoor.T
open Go.RowKit Go.Proofs.YtnomgmlfagiffaaDoorW.PrintWords Go.Proofs.YtnomgmlfagiffaaDoorW.PrintLast
theorem eqA50 (d : Nat) (w : World) (x0 y0 : Int) (x1 y1 : Int) (x2 y2 : Int) (x3 y3 : ByteArray) (x4 y4 : Int) (x5 y5 : Int) (x6 y6 : ByteArray) :
    (Op.equalIn (d + 3) 50 (.agg #[.int .i64 x0, .int .i64 x1, .int .i64 x2, .string x3, .int .i64 x4, .int .i64 x5, .string x6]) (.agg #[.int .i64 y0, .int .i64 y1, .int .i64 y2, .string y3, .int .i64 y4, .int .i64 y5, .string y6])).run Tryd.prog w = .ok (x0 == y0 && ((x1 == y1 && (x2 == y2 && (x3.toList == y3.toList))) && ((x4 == y4 && (x5 == y5 && (x6.toList == y6.toList)))))) w := by
  refine eqA_of Tryd.underlying50 (by kernel_rfl) ?_
  refine eqf_cons (by rfl) (by go_simp; rfl) (by go_simp; rfl) (by go_simp) ?_
  refine eqf_cons (by rfl) (by go_simp) (by go_simp) (eqA23 (d + 0) w _ _ _ _ _ _) ?_
  exact eqf_last (by rfl) (by go_simp) (by go_simp) (eqA23 (d + 0) w _ _ _ _ _ _)
attribute [local go_sem high] eqA50
attribute [local go_sem ↓] Go.wp_at_zero Go.wp_at_succ
/-- What the walk carries: nothing old has turned, the lent binding is as it was made. -/
structure SInv (w W : World) (s : List Bd) (g0 c0 : Nat) : Prop where
  below : Below w.heap.size w W
  own : Kd.R k44 44 W w.heap.size (fun _ => True) (.slice (some ⟨g0, 0, none⟩) (s.length + 1) c0) (s ++ [lateB])
theorem SInv.up {w W W' : World} {s : List Bd} {g0 c0 : Nat} (h : SInv w W s g0 c0) (hb : Below W.heap.size W W') : SInv w W' s g0 c0 :=
  ⟨below_step h.below hb, Kd.R_below h.own hb⟩
set_option maxHeartbeats 4000000 in
set_option maxRecDepth 100000 in
theorem tests_calls (o : Int) (t u : Tm) (s : List Bd) (A1 : Option Addr) (c1 : Nat) (w : World) (hr1 : Kd.C k44 w A1 s.length s) (hc1 : s.length ≤ c1) (ot : okT t = true) (ou : okT u = true)
    (hLn : Laid2 w) (hLl : Laid0 w) (ls : s.length < smallN) :
    Calls Tryd.prog 7 #[.agg #[.int .i64 o, .int .i64 t.f0, .int .i64 t.f1, .string t.f2, .int .i64 u.f0, .int .i64 u.f1, .string u.f2], .slice A1 s.length c1] w fun e w' => e = .returned (.bool true) ∧ Below w.heap.size w w' := by
  have hu50 := Tryd.underlying50
  have hu23 := Tryd.underlying23
  have HP : Aside0 ((Kd.C k44 w A1 s.length s ∧ s.length ≤ c1) ∧ Laid2 w ∧ Laid0 w ∧ s.length < smallN ∧ okT t = true ∧ okT u = true) := ⟨⟨hr1, hc1⟩, hLn, hLl, ls, ot, ou⟩
  clear hr1 hc1 hLn hLl ls ot ou
  obtain ⟨rc, hrc⟩ : ∃ rc : Int, (if okTest o t u then 0 else 32) = rc := ⟨_, rfl⟩
  obtain ⟨a, ha⟩ : ∃ a, becomeT s t = a := ⟨_, rfl⟩
  obtain ⟨b, hb⟩ : ∃ b, becomeT s u = b := ⟨_, rfl⟩
  obtain ⟨dd, hd⟩ : ∃ dd, decideT o t u = dd := ⟨_, rfl⟩
  obtain ⟨y0, y1⟩ := dd
  have HRC := Aside0.mk hrc
  have HAB := Aside0.mk (show becomeT s t = a ∧ becomeT s u = b from ⟨ha, hb⟩)
  have HD := Aside0.mk hd
  clear hrc ha hb hd
  go_enter Tryd.func7, Tryd.ntmps7
  go_wp2_with (first
    | ((with_reducible refine gate_dst (N := 2) rfl ?_); refine box_event ?hg (N := 2) ?hd (cs := #[.int .i64 o, .int .i64 t.f0, .int .i64 t.f1, .string t.f2, .int .i64 u.f0, .int .i64 u.f1, .string u.f2]) (t := 50) ?hr ?_; (case hd => rfl); (case hg => rfl); (case hr => first | (go_simp; done) | (go_simp; rfl)); intro b2 hb2 w0 hbox hb; have K2 := Aside0.mk hbox; have HB0 := Aside0.mk hb; clear hb2 hbox hb)
    | (go_at_call 12; refine (lend_calls A1 c1 s _ (Kd.C_below HP.out.1.1 HB0.out) HP.out.1.2 (Laid0.up HP.out.2.2.1 HB0.out) HP.out.2.2.2.1).mono ?_; rintro e w2 ⟨g0, d0, rfl, hR, hb⟩; have I1 := Aside0.mk (SInv.mk (below_step HB0.out hb) (Kd.R_lower hR HB0.out.size)); have K22 := Aside0.mk (blk_below K2.out hb); clear hR hb K2 HB0)
    | go_in)
  have I2 : Aside0 (SInv w w2.drew s g0 d0) := ⟨I1.out.up (Below.refl _ w2).drew⟩
  have hc0 : w2.drew.cell? ⟨b2, 0, none⟩ = some (.int .i64 o) := (blk_cell K22.out 0).trans rfl
  have hc1 : w2.drew.cell? ⟨b2, 1, none⟩ = some (.int .i64 t.f0) := (blk_cell K22.out 1).trans rfl
  have hc2 : w2.drew.cell? ⟨b2, 2, none⟩ = some (.int .i64 t.f1) := (blk_cell K22.out 2).trans rfl
  have hc3 : w2.drew.cell? ⟨b2, 3, none⟩ = some (.string t.f2) := (blk_cell K22.out 3).trans rfl
  have hc4 : w2.drew.cell? ⟨b2, 4, none⟩ = some (.int .i64 u.f0) := (blk_cell K22.out 4).trans rfl
  have hc5 : w2.drew.cell? ⟨b2, 5, none⟩ = some (.int .i64 u.f1) := (blk_cell K22.out 5).trans rfl
  have hc6 : w2.drew.cell? ⟨b2, 6, none⟩ = some (.string u.f2) := (blk_cell K22.out 6).trans rfl
  refine start_ (n := 14) (S := fun w' => w'.cell? ⟨b2, 0, none⟩ = some (.int .i64 o) ∧ w'.cell? ⟨b2, 1, none⟩ = some (.int .i64 t.f0) ∧ w'.cell? ⟨b2, 2, none⟩ = some (.int .i64 t.f1) ∧ w'.cell? ⟨b2, 3, none⟩ = some (.string t.f2) ∧ w'.cell? ⟨b2, 4, none⟩ = some (.int .i64 u.f0) ∧ w'.cell? ⟨b2, 5, none⟩ = some (.int .i64 u.f1) ∧ w'.cell? ⟨b2, 6, none⟩ = some (.string u.f2)) (ds := []) #[false, false, false, false, false, false, false, false, false, false, false, false, false, false] (by kernel_rfl) rfl rfl ⟨hc0, hc1, hc2, hc3, hc4, hc5, hc6⟩ (fun hHeld => ?_)
  refine take_ (i := 0) (N := some 12) (v := ?_) (a' := ?_) #[true, false, false, false, false, false, false, false, false, false, false, false, false, false] rfl rfl (by kernel_rfl) (fun _ _ _ h => h) (Or.inl ⟨by rfl, ?_⟩) hHeld ?_ ?_
  rotate_left
  · rintro w' ⟨s0, s1, s2, s3, s4, s5, s6⟩
    go_simp
    with_reducible rfl
  rotate_left
  · simp only [Act.put, List.setIfInBounds_toArray, List.set_cons_zero, List.set_cons_succ, i64_w, i32_w]
    rfl
  refine take_ (i := 2) (N := some 14) (v := ?_) (a' := ?_) #[true, false, true, false, false, false, false, false, false, false, false, false, false, false] rfl rfl (by kernel_rfl) (fun _ _ _ h => h) (Or.inl ⟨by rfl, ?_⟩) hHeld ?_ ?_
  rotate_left
  · rintro w' ⟨s0, s1, s2, s3, s4, s5, s6⟩
    go_simp
    with_reducible rfl
  rotate_left
  · simp only [Act.put, List.setIfInBounds_toArray, List.set_cons_zero, List.set_cons_succ, i64_w, i32_w]
    rfl
  refine one_ (i := 1) (N := some 13) #[true, true, true, false, false, false, false, false, false, false, false, false, false, false] rfl rfl (by kernel_rfl) (by decide) (fun K hK => ?_)
  refine goes_ Tryd.func31 (by kernel_rfl) rfl #[.agg #[.int .i64 o, .int .i64 t.f0, .int .i64 t.f1, .string t.f2, .int .i64 u.f0, .int .i64 u.f1, .string u.f2]] (by rfl) rfl rfl (by simp only [List.map_toArray, List.map_cons, List.map_nil]; rfl) ?_
  with_reducible refine (term_CheckTest.calls o t.f0 t.f1 t.f2 u.f0 u.f1 u.f2 rc _ (by rw [checkTest_f, HRC.out])).mono ?_
  rintro e w3 ⟨rfl, hb⟩
  refine ⟨_, rfl, ?_⟩
  have I3 := Aside0.mk (I2.out.up hb)
  have hd0 := cell_up hc0 hb
  have hd1 := cell_up hc1 hb
  have hd2 := cell_up hc2 hb
  have hd3 := cell_up hc3 hb
  have hd4 := cell_up hc4 hb
  have hd5 := cell_up hc5 hb
  have hd6 := cell_up hc6 hb
  clear hb
  refine hK.out _ _ ⟨hd0, hd1, hd2, hd3, hd4, hd5, hd6⟩ (fun hHeld => ?_)
  clear hK K
  refine norm_ (a' := ?_) ?_ ?_
  rotate_left
  · show Act.put _ (some 13) _ = _
    simp only [Act.put, List.setIfInBounds_toArray, List.set_cons_zero, List.set_cons_succ, i64_w, i32_w]
    rfl
  refine one_ (i := 3) (N := some 15) #[true, true, true, true, false, false, false, false, false, false, false, false, false, false] rfl rfl (by kernel_rfl) (by decide) (fun K hK => ?_)
  refine goes_ Tryd.func32 (by kernel_rfl) rfl #[.agg #[.int .i64 o, .int .i64 t.f0, .int .i64 t.f1, .string t.f2, .int .i64 u.f0, .int .i64 u.f1, .string u.f2]] (by rfl) rfl rfl (by simp only [List.map_toArray, List.map_cons, List.map_nil]; rfl) ?_
  with_reducible refine (hearsayref02_CheckTest.calls 1 o t.f0 t.f1 t.f2 u.f0 u.f1 u.f2 rc _ (by rw [rcheck_f o t u 1 (Nat.le_refl _), HRC.out])).mono ?_
  rintro e w4 ⟨rfl, hb⟩
  refine ⟨_, rfl, ?_⟩
  have I4 := Aside0.mk (I3.out.up hb)
  have he0 := cell_up hd0 hb
  have he1 := cell_up hd1 hb
  have he2 := cell_up hd2 hb
  have he3 := cell_up hd3 hb
  have he4 := cell_up hd4 hb
  have he5 := cell_up hd5 hb
  have he6 := cell_up hd6 hb
  clear hb
  refine hK.out _ _ ⟨he0, he1, he2, he3, he4, he5, he6⟩ (fun hHeld => ?_)
  clear hK K
  refine norm_ (a' := ?_) ?_ ?_
  rotate_left
  · show Act.put _ (some 15) _ = _
    simp only [Act.put, List.setIfInBounds_toArray, List.set_cons_zero, List.set_cons_succ, i64_w, i32_w]
    rfl
  refine pure_ (i := 4) (N := some 16) (v := ?_) (a' := ?_) #[true, true, true, true, true, false, false, false, false, false, false, false, false, false] rfl rfl (by kernel_rfl) (fun _ _ _ h => h) (Or.inl ⟨by rfl, ?_⟩) ?_ ?_
  rotate_left
  · intro w'
    go_simp
    with_reducible rfl
  rotate_left
  · simp only [Act.put, List.setIfInBounds_toArray, List.set_cons_zero, List.set_cons_succ, i64_w, i32_w]
    rfl
  refine pure_ (i := 5) (N := some 17) (v := ?_) (a' := ?_) #[true, true, true, true, true, true, false, false, false, false, false, false, false, false] rfl rfl (by kernel_rfl) (fun _ _ _ h => h) (Or.inl ⟨by rfl, ?_⟩) ?_ ?_
  rotate_left
  · intro w'
    go_simp
    with_reducible rfl
  rotate_left
  · simp only [Act.put, List.setIfInBounds_toArray, List.set_cons_zero, List.set_cons_succ, i64_w, i32_w]
    rfl
  refine pure_ (i := 6) (N := some 18) (v := ?_) (a' := ?_) #[true, true, true, true, true, true, true, false, false, false, false, false, false, false] rfl rfl (by kernel_rfl) (fun _ _ _ h => h) (Or.inl ⟨by rfl, ?_⟩) ?_ ?_
  rotate_left
  · intro w'
    go_simp
    with_reducible rfl
  rotate_left
  · simp only [Act.put, List.setIfInBounds_toArray, List.set_cons_zero, List.set_cons_succ, i64_w, i32_w]
    rfl
  refine pure_ (i := 9) (N := some 21) (v := ?_) (a' := ?_) #[true, true, true, true, true, true, true, false, false, true, false, false, false, false] rfl rfl (by kernel_rfl) (fun _ _ _ h => h) (Or.inl ⟨by rfl, ?_⟩) ?_ ?_
  rotate_left
  · intro w'
    go_simp
    with_reducible rfl
  rotate_left
  · simp only [Act.put, List.setIfInBounds_toArray, List.set_cons_zero, List.set_cons_succ, i64_w, i32_w]
    rfl
  refine take_ (i := 7) (N := some 19) (v := ?_) (a' := ?_) #[true, true, true, true, true, true, true, true, false, true, false, false, false, false] rfl rfl (by kernel_rfl) (fun _ _ _ h => h) (Or.inl ⟨by rfl, ?_⟩) hHeld ?_ ?_
  rotate_left
  · rintro w' ⟨s0, s1, s2, s3, s4, s5, s6⟩
    go_simp
    with_reducible rfl
  rotate_left
  · simp only [Act.put, List.setIfInBounds_toArray, List.set_cons_zero, List.set_cons_succ, i64_w, i32_w]
    rfl
  refine take_ (i := 10) (N := some 22) (v := ?_) (a' := ?_) #[true, true, true, true, true, true, true, true, false, true, true, false, false, false] rfl rfl (by kernel_rfl) (fun _ _ _ h => h) (Or.inl ⟨by rfl, ?_⟩) hHeld ?_ ?_
  rotate_left
  · rintro w' ⟨s0, s1, s2, s3, s4, s5, s6⟩
    go_simp
    with_reducible rfl
  rotate_left
  · simp only [Act.put, List.setIfInBounds_toArray, List.set_cons_zero, List.set_cons_succ, i64_w, i32_w]
    rfl
  refine one_ (i := 8) (N := some 20) #[true, true, true, true, true, true, true, true, true, true, true, false, false, false] rfl rfl (by kernel_rfl) (by decide) (fun K hK => ?_)
  refine goes_ Tryd.func33 (by kernel_rfl) rfl #[.slice (some ⟨g0, 0, none⟩) s.length d0, .agg #[.int .i64 o, .int .i64 t.f0, .int .i64 t.f1, .string t.f2, .int .i64 u.f0, .int .i64 u.f1, .string u.f2]] (by rfl) rfl rfl (by simp only [List.map_toArray, List.map_cons, List.map_nil]; rfl) ?_
  with_reducible refine (term_ApplyTest.calls (s.length + 1) (some ⟨g0, 0, none⟩) d0 s o t.f0 t.f1 t.f2 u.f0 u.f1 u.f2 o a.f0 a.f1 a.f2 b.f0 b.f1 b.f2 _ (C_front (R_C' I4.out.own)) (by have := R_room I4.out.own (by simp); simp at this; omega) (Laid2.up HP.out.2.1 I4.out.below) (by rw [applyTest_f s o t u HP.out.2.2.2.1 _ (Nat.le_refl _), HAB.out.1, HAB.out.2])).mono ?_
  rintro e w5 ⟨rfl, hb⟩
  refine ⟨_, rfl, ?_⟩
  have I5 := Aside0.mk (I4.out.up hb)
  have hf0 := cell_up he0 hb
  have hf1 := cell_up he1 hb
  have hf2 := cell_up he2 hb
  have hf3 := cell_up he3 hb
  have hf4 := cell_up he4 hb
  have hf5 := cell_up he5 hb
  have hf6 := cell_up he6 hb
  clear hb
  refine hK.out _ _ ⟨hf0, hf1, hf2, hf3, hf4, hf5, hf6⟩ (fun hHeld => ?_)
  clear hK K
  refine norm_ (a' := ?_) ?_ ?_
  rotate_left
  · show Act.put _ (some 20) _ = _
    simp only [Act.put, List.setIfInBounds_toArray, List.set_cons_zero, List.set_cons_succ, i64_w, i32_w]
    rfl
  refine one_ (i := 11) (N := some 23) #[true, true, true, true, true, true, true, true, true, true, true, true, false, false] rfl rfl (by kernel_rfl) (by decide) (fun K hK => ?_)
  refine goes_ Tryd.func34 (by kernel_rfl) rfl #[.slice A1 s.length c1, .agg #[.int .i64 o, .int .i64 t.f0, .int .i64 t.f1, .string t.f2, .int .i64 u.f0, .int .i64 u.f1, .string u.f2]] (by rfl) rfl rfl (by simp only [List.map_toArray, List.map_cons, List.map_nil]; rfl) ?_
  with_reducible refine (hearsayref02_ApplyTest.calls (s.length + 1) A1 c1 s o t.f0 t.f1 t.f2 u.f0 u.f1 u.f2 o a.f0 a.f1 a.f2 b.f0 b.f1 b.f2 _ (Kd.C_below HP.out.1.1 I5.out.below) HP.out.1.2 (by rw [rapplyTest_f s o t u HP.out.2.2.2.1 _ (Nat.le_refl _), HAB.out.1, HAB.out.2])).mono ?_
  rintro e w6 ⟨rfl, hb⟩
  refine ⟨_, rfl, ?_⟩
  have I6 := Aside0.mk (I5.out.up hb)
  have hg0 := cell_up hf0 hb
  have hg1 := cell_up hf1 hb
  have hg2 := cell_up hf2 hb
  have hg3 := cell_up hf3 hb
  have hg4 := cell_up hf4 hb
  have hg5 := cell_up hf5 hb
  have hg6 := cell_up hf6 hb
  clear hb
  refine hK.out _ _ ⟨hg0, hg1, hg2, hg3, hg4, hg5, hg6⟩ (fun hHeld => ?_)
  clear hK K
  refine norm_ (a' := ?_) ?_ ?_
  rotate_left
  · show Act.put _ (some 23) _ = _
    simp only [Act.put, List.setIfInBounds_toArray, List.set_cons_zero, List.set_cons_succ, i64_w, i32_w]
    rfl
  refine pure_ (i := 12) (N := some 24) (v := ?_) (a' := ?_) #[true, true, true, true, true, true, true, true, true, true, true, true, true, false] rfl rfl (by kernel_rfl) (fun _ _ _ h => h) (Or.inl ⟨by rfl, ?_⟩) ?_ ?_
  rotate_left
  · intro w'
    go_simp
    with_reducible rfl
  rotate_left
  · simp only [Act.put, List.setIfInBounds_toArray, List.set_cons_zero, List.set_cons_succ, i64_w, i32_w]
    rfl
  refine pure_ (i := 13) (N := some 25) (v := ?_) (a' := ?_) #[true, true, true, true, true, true, true, true, true, true, true, true, true, true] rfl rfl (by kernel_rfl) (fun _ _ _ h => h) (Or.inl ⟨by rfl, ?_⟩) ?_ ?_
  rotate_left
  · intro w'
    go_simp
    with_reducible rfl
  rotate_left
  · simp only [Act.put, List.setIfInBounds_toArray, List.set_cons_zero, List.set_cons_succ, i64_w, i32_w]
    rfl
  refine done_ (by kernel_rfl) ?_
  clear hc0 hc1 hc2 hc3 hc4 hc5 hc6 hd0 hd1 hd2 hd3 hd4 hd5 hd6 he0 he1 he2 he3 he4 he5 he6 hf0 hf1 hf2 hf3 hf4 hf5 hf6 hHeld
  go_wp2_with (first
    | (go_at_call 35; refine (term_Decide.calls 5 o t.f0 t.f1 t.f2 u.f0 u.f1 u.f2 y0 y1 _ (by have h := decide_f o t u 0; rw [HD.out] at h; exact h)).mono ?_; rintro e w7 ⟨rfl, hb⟩; have I7 := Aside0.mk (I6.out.up hb); have hh0 := cell_up hg0 hb; have hh1 := cell_up hg1 hb; have hh2 := cell_up hg2 hb; have hh3 := cell_up hg3 hb; have hh4 := cell_up hg4 hb; have hh5 := cell_up hg5 hb; have hh6 := cell_up hg6 hb; clear hg0 hg1 hg2 hg3 hg4 hg5 hg6 hb)
    | (go_at_call 36; refine (hearsayref02_Decide.calls (2 * t.f2.size + 3) o t.f0 t.f1 t.f2 u.f0 u.f1 u.f2 y0 y1 _ (by rw [rdecide_f o t u HP.out.2.2.2.2.1 HP.out.2.2.2.2.2 _ (Nat.le_refl _), HD.out])).mono ?_; rintro e w8 ⟨rfl, hb⟩; have I8 := Aside0.mk (I7.out.up hb); clear hb)
    | (go_at_call 17; refine (still_calls g0 d0 A1 c1 s _ w.heap.size I8.out.own (Kd.C_below HP.out.1.1 I8.out.below) HP.out.1.2 (Laid0.up HP.out.2.2.1 I8.out.below) HP.out.2.2.2.1).mono ?_; rintro e w9 ⟨rfl, hb⟩; have I9 := Aside0.mk (I8.out.up hb); clear hb)
    | (go_at_call 19; refine (hearsaylaw02_first.calls true _ first_f).mono ?_; rintro e w11 ⟨rfl, hb⟩; have I11 := Aside0.mk (I9.out.up hb); clear hb)
    | go_in)
  go_ret
  exact ⟨rfl, I11.out.below⟩
end Go.Proofs.YtnomgmlfagiffaaDoor.T
