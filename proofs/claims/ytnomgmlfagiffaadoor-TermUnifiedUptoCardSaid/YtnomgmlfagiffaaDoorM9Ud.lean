/- GLink; PureUn: texts of this claim, laid together. -/
import Derived.Test.YtnomgmlfagiffaaDoorM8Ud
/- The walk of (classes).link. -/
set_option linter.unusedVariables false
set_option linter.unusedSimpArgs false
namespace Go.Proofs.YtnomgmlfagiffaaDoor.T
open Go.RowKit Go.Maps Go.Proofs.YtnomgmlfagiffaaDoorW.PrintWords Go.Proofs.YtnomgmlfagiffaaDoorW.PrintLast
attribute [local go_sem high] eqA23
theorem top_inv {C C' : Cl} {t r : Tm} (h : Top C t r C') (hI : InvC C) (ot : okT t = true) : InvC C' := by
  classical
  induction h with
  | new h =>
    rename_i t
    refine ⟨fun a u hu => ?_, fun a u hu hne => ?_⟩
    · unfold Cl.set at hu
      by_cases e : a = t
      · rw [if_pos e] at hu; injection hu with hu; rw [← hu]; exact ot
      · rw [if_neg e] at hu; exact hI.ok a u hu
    · unfold Cl.set at hu
      by_cases e : a = t
      · rw [if_pos e] at hu; injection hu with hu; exact absurd (hu.symm.trans e.symm) hne
      · rw [if_neg e] at hu; exact hI.down a u hu hne
  | self h => exact hI
  | step h hu h2 ih => exact ih (hI.ok _ _ h)
/-- What link answers of the two terms that stand for the classes, and what it leaves. -/
noncomputable def linkR (x y : Tm) (C : Cl) : Bool × Cl :=
  if eqT x y then (true, C) else if !isVar x && !isVar y then (false, C) else if !isVar x || (isVar y && decide (x.f1 < y.f1)) then (true, C.set y x) else (true, C.set x y)
theorem set_inv {C : Cl} {a u : Tm} (hI : InvC C) (ou : okT u = true) (hr : rankT u < rankT a) : InvC (C.set a u) := by
  classical
  refine ⟨fun t v hv => ?_, fun t v hv hne => ?_⟩
  · unfold Cl.set at hv
    by_cases e : t = a
    · rw [if_pos e] at hv; injection hv with hv; rw [← hv]; exact ou
    · rw [if_neg e] at hv; exact hI.ok t v hv
  · unfold Cl.set at hv
    by_cases e : t = a
    · rw [if_pos e] at hv; injection hv with hv; rw [← hv, e]; exact hr
    · rw [if_neg e] at hv; exact hI.down t v hv hne
theorem isVar_parts {t : Tm} (h : isVar t = true) : t.f0 = 3 ∧ 0 ≤ t.f1 ∧ t.f2.toList = [] := by
  unfold isVar at h
  simp only [Bool.and_eq_true, decide_eq_true_eq, beq_iff_eq] at h
  exact h
theorem link_inv {x y : Tm} {C : Cl} (hI : InvC C) (ox : okT x = true) (oy : okT y = true) : InvC (linkR x y C).2 := by
  unfold linkR
  by_cases he : eqT x y = true
  · rw [if_pos he]; exact hI
  · rw [if_neg he]
    have hne : x ≠ y := fun e => he ((eqT_iff x y).2 e)
    cases hx : isVar x with
    | false =>
      cases hy : isVar y with
      | false => simp; exact hI
      | true =>
        simp
        exact set_inv hI ox (by unfold rankT; rw [hx, hy]; simp)
    | true =>
      cases hy : isVar y with
      | false =>
        simp
        exact set_inv hI oy (by unfold rankT; rw [hx, hy]; simp)
      | true =>
        have px := isVar_parts hx
        have py := isVar_parts hy
        by_cases hl : x.f1 < y.f1
        · simp [hl]
          exact set_inv hI ox (by unfold rankT; rw [hx, hy]; simp; omega)
        · simp [hl]
          have hn : x.f1 ≠ y.f1 := fun e => hne (by
            cases x; cases y
            simp only at px py e
            obtain ⟨a0, _, a2⟩ := px
            obtain ⟨b0, _, b2⟩ := py
            subst e
            rw [a0, b0]
            congr 1
            exact ba_ext (a2.trans b2.symm))
          exact set_inv hI oy (by unfold rankT; rw [hx, hy]; simp; omega)
structure LInv (w W : World) (b n : Nat) (D : DataW Tm) (b7 b8 : Nat) (x y : Tm) : Prop where
  m : W.ownsMap Tryd.prog 23 RT b n D
  g : w.grownBy W (some b)
  ka : W.heap[b7]? = some (.cells #[.int .i64 x.f0, .int .i64 x.f1, .string x.f2] 23 (0, 0))
  kb : W.heap[b8]? = some (.cells #[.int .i64 y.f0, .int .i64 y.f1, .string y.f2] 23 (0, 0))
theorem LInv.up {w W W' : World} {b n : Nat} {D : DataW Tm} {b7 b8 : Nat} {x y : Tm} (h : LInv w W b n D b7 b8 x y) (hb : Below W.heap.size W W') : LInv w W' b n D b7 b8 x y :=
  ⟨mapT_below h.m hb, World.grownBy.trans h.g (grown_of_below hb _), blk_below h.ka hb, blk_below h.kb hb⟩
set_option maxHeartbeats 8000000 in
set_option maxRecDepth 100000 in
theorem link_calls (b n : Nat) (D : DataW Tm) (C : Cl) (x y : Tm) (w : World) (hm : w.ownsMap Tryd.prog 23 RT b n D) (hC : ClsD D C) (hI : InvC C) (ox : okT x = true) (oy : okT y = true) (hn : n + 3 < maxLen) :
    Calls Tryd.prog 59 #[.map (some b), .agg #[.int .i64 x.f0, .int .i64 x.f1, .string x.f2], .agg #[.int .i64 y.f0, .int .i64 y.f1, .string y.f2]] w fun e w' => ∃ (rx ry : Tm) (C1 C2 : Cl) (D' : DataW Tm), e = .returned (.bool (linkR rx ry C2).1) ∧ Top C x rx C1 ∧ Top C1 y ry C2 ∧ ClsD D' (linkR rx ry C2).2 ∧ InvC (linkR rx ry C2).2 ∧ w'.ownsMap Tryd.prog 23 RT b (n + 3) D' ∧ w.grownBy w' (some b) := by
  have hu23 := Tryd.underlying23
  have HN := Aside0.mk hn
  have HLT := Aside0.mk hm.lt
  have HC := Aside0.mk hC
  have HI := Aside0.mk hI
  have OX := Aside0.mk ox
  have OY := Aside0.mk oy
  have HMM := Aside0.mk hm
  clear hm hC hI ox oy hn
  go_enter Tryd.func59, Tryd.ntmps59
  go_wp2_with (first
    | ((with_reducible refine gate_dst (N := 4) rfl ?_); refine box_event ?hg (N := 4) ?hd (cs := #[.int .i64 x.f0, .int .i64 x.f1, .string x.f2]) (t := 23) ?hr ?_; (case hd => rfl); (case hg => rfl); (case hr => first | (go_simp; done) | (go_simp; rfl)); intro b4 hb4 w1 hbox hb; have K4 := Aside0.mk hbox; have HB1 := Aside0.mk hb; have G4 := Aside0.mk (show w.heap.size ≤ b4 by omega); clear hb4 hbox hb)
    | ((with_reducible refine gate_dst (N := 5) rfl ?_); refine box_event ?hg (N := 5) ?hd (cs := #[.int .i64 y.f0, .int .i64 y.f1, .string y.f2]) (t := 23) ?hr ?_; (case hd => rfl); (case hg => rfl); (case hr => first | (go_simp; done) | (go_simp; rfl)); intro b5 hb5 w2 hbox hb; have K42 := Aside0.mk (blk_below K4.out hb); have K5 := Aside0.mk hbox; have HB2 := Aside0.mk (below_step HB1.out hb); have G5 := Aside0.mk (show w.heap.size ≤ b5 by have := HB1.out.size; omega); clear hb5 hbox hb K4 HB1)
    | go_in)
  have KX0 : Aside0 (w2.drew.heap[b4]? = some (.cells #[.int .i64 x.f0, .int .i64 x.f1, .string x.f2] 23 (0, 0))) := ⟨K42.out⟩
  have KY0 : Aside0 (w2.drew.heap[b5]? = some (.cells #[.int .i64 y.f0, .int .i64 y.f1, .string y.f2] 23 (0, 0))) := ⟨K5.out⟩
  have HM0 : Aside0 (w2.drew.ownsMap Tryd.prog 23 RT b n D) := ⟨mapT_below HMM.out HB2.out.drew⟩
  have HG0 : Aside0 (w.grownBy w2.drew (some b)) := ⟨grown_of_below HB2.out.drew _⟩
  have NX := Aside0.mk (show some b4 ≠ some b by have := HLT.out; have := G4.out; simp; omega)
  have NY := Aside0.mk (show some b5 ≠ some b by have := HLT.out; have := G5.out; simp; omega)
  clear K42 K5 HMM HB2
  refine start_ (n := 10) (S := fun w' => w'.cell? ⟨b4, 0, none⟩ = some (.int .i64 x.f0) ∧ w'.cell? ⟨b4, 1, none⟩ = some (.int .i64 x.f1) ∧ w'.cell? ⟨b4, 2, none⟩ = some (.string x.f2) ∧ w'.cell? ⟨b5, 0, none⟩ = some (.int .i64 y.f0) ∧ w'.cell? ⟨b5, 1, none⟩ = some (.int .i64 y.f1) ∧ w'.cell? ⟨b5, 2, none⟩ = some (.string y.f2)) (ds := []) #[false, false, false, false, false, false, false, false, false, false] (by kernel_rfl) rfl rfl ⟨(blk_cell KX0.out 0).trans rfl, (blk_cell KX0.out 1).trans rfl, (blk_cell KX0.out 2).trans rfl, (blk_cell KY0.out 0).trans rfl, (blk_cell KY0.out 1).trans rfl, (blk_cell KY0.out 2).trans rfl⟩ (fun hHeld => ?_)
  refine pure_ (i := 0) (N := some 9) (v := ?_) (a' := ?_) #[true, false, false, false, false, false, false, false, false, false] rfl rfl (by kernel_rfl) (fun _ _ _ h => h) (Or.inl ⟨by rfl, ?_⟩) ?_ ?_
  rotate_left
  · intro w'
    go_simp
    with_reducible rfl
  rotate_left
  · simp only [Act.put, List.setIfInBounds_toArray, List.set_cons_zero, List.set_cons_succ, i64_w, i32_w]
    rfl
  refine pure_ (i := 3) (N := some 12) (v := ?_) (a' := ?_) #[true, false, false, true, false, false, false, false, false, false] rfl rfl (by kernel_rfl) (fun _ _ _ h => h) (Or.inl ⟨by rfl, ?_⟩) ?_ ?_
  rotate_left
  · intro w'
    go_simp
    with_reducible rfl
  rotate_left
  · simp only [Act.put, List.setIfInBounds_toArray, List.set_cons_zero, List.set_cons_succ, i64_w, i32_w]
    rfl
  refine take_ (i := 1) (N := some 10) (v := ?_) (a' := ?_) #[true, true, false, true, false, false, false, false, false, false] rfl rfl (by kernel_rfl) (fun _ _ _ h => h) (Or.inl ⟨by rfl, ?_⟩) hHeld ?_ ?_
  rotate_left
  · rintro w' ⟨s0, s1, s2, s3, s4, s5⟩
    go_simp
    with_reducible rfl
  rotate_left
  · simp only [Act.put, List.setIfInBounds_toArray, List.set_cons_zero, List.set_cons_succ, i64_w, i32_w]
    rfl
  refine take_ (i := 4) (N := some 13) (v := ?_) (a' := ?_) #[true, true, false, true, true, false, false, false, false, false] rfl rfl (by kernel_rfl) (fun _ _ _ h => h) (Or.inl ⟨by rfl, ?_⟩) hHeld ?_ ?_
  rotate_left
  · rintro w' ⟨s0, s1, s2, s3, s4, s5⟩
    go_simp
    with_reducible rfl
  rotate_left
  · simp only [Act.put, List.setIfInBounds_toArray, List.set_cons_zero, List.set_cons_succ, i64_w, i32_w]
    rfl
  refine join_ (σ := Tm × Tm × Nat × Nat) 2 #[true, true, true, true, true, true, true, true, false, false] (fun s_ => [(11, .agg #[.int .i64 s_.1.f0, .int .i64 s_.1.f1, .string s_.1.f2]), (14, .agg #[.int .i64 s_.2.1.f0, .int .i64 s_.2.1.f1, .string s_.2.1.f2]), (7, .pointer (some ⟨s_.2.2.1, 0, none⟩)), (8, .pointer (some ⟨s_.2.2.2, 0, none⟩))]) (fun s_ w' => ∃ (C1 C2 : Cl) (D2 : DataW Tm), (w'.cell? ⟨b4, 0, none⟩ = some (.int .i64 x.f0) ∧ w'.cell? ⟨b4, 1, none⟩ = some (.int .i64 x.f1) ∧ w'.cell? ⟨b4, 2, none⟩ = some (.string x.f2) ∧ w'.cell? ⟨b5, 0, none⟩ = some (.int .i64 y.f0) ∧ w'.cell? ⟨b5, 1, none⟩ = some (.int .i64 y.f1) ∧ w'.cell? ⟨b5, 2, none⟩ = some (.string y.f2)) ∧ Top C x s_.1 C1 ∧ Top C1 y s_.2.1 C2 ∧ okT s_.1 = true ∧ okT s_.2.1 = true ∧ ClsD D2 C2 ∧ InvC C2 ∧ w'.ownsMap Tryd.prog 23 RT b (n + 2) D2 ∧ w.grownBy w' (some b) ∧ w'.heap[s_.2.2.1]? = some (.cells #[.int .i64 0, .int .i64 0, .string (⟨#[]⟩ : ByteArray)] 23 (0, 0)) ∧ w'.heap[s_.2.2.2]? = some (.cells #[.int .i64 0, .int .i64 0, .string (⟨#[]⟩ : ByteArray)] 23 (0, 0)) ∧ w.heap.size ≤ s_.2.2.1 ∧ w.heap.size ≤ s_.2.2.2 ∧ s_.2.2.1 ≠ s_.2.2.2 ∧ w'.heap[b4]? = some (.cells #[.int .i64 x.f0, .int .i64 x.f1, .string x.f2] 23 (0, 0)) ∧ w'.heap[b5]? = some (.cells #[.int .i64 y.f0, .int .i64 y.f1, .string y.f2] 23 (0, 0)) ∧ (b4 ≠ s_.2.2.1 ∧ b4 ≠ s_.2.2.2 ∧ b5 ≠ s_.2.2.1 ∧ b5 ≠ s_.2.2.2)) ?_ ?_
  rotate_left
  · intro hCont
    refine three_ (i := 2) (j := 6) (k := 7) (Ni := some 11) (Nj := some 7) (Nk := some 8) #[true, true, true, true, true, false, false, false, false, false] #[true, true, false, true, true, false, true, false, false, false] #[true, true, false, true, true, false, false, true, false, false] rfl rfl rfl rfl rfl rfl (by kernel_rfl) (by decide) (by decide) (by decide) (fun K hK => ?_) (fun K hK => ?_) (fun K hK => ?_)
    · skip
      refine goes_ Tryd.func60 (by kernel_rfl) rfl #[.map (some b), .agg #[.int .i64 x.f0, .int .i64 x.f1, .string x.f2]] (by rfl) rfl rfl (by simp only [List.map_toArray, List.map_cons, List.map_nil]; rfl) ?_
      with_reducible refine (top_calls b n D C x _ HM0.out HC.out HI.out OX.out (by have := HN.out; omega)).mono ?_
      rintro e w1_ ⟨rx, C1, D1, rfl, hT, hok, hC, hm, hg⟩
      refine ⟨_, rfl, ?_⟩
      have HM1 := Aside0.mk hm
      have HG1 := Aside0.mk (World.grownBy.trans HG0.out hg)
      have HT1 := Aside0.mk hT
      have OR1 := Aside0.mk hok
      have HC1 := Aside0.mk hC
      have HI1 := Aside0.mk (top_inv hT HI.out OX.out)
      have KX1 := Aside0.mk (blk_grown KX0.out hg NX.out)
      have KY1 := Aside0.mk (blk_grown KY0.out hg NY.out)
      clear hT hok hC hm hg
      refine hK.out _ _ ⟨(blk_cell KX1.out 0).trans rfl, (blk_cell KX1.out 1).trans rfl, (blk_cell KX1.out 2).trans rfl, (blk_cell KY1.out 0).trans rfl, (blk_cell KY1.out 1).trans rfl, (blk_cell KY1.out 2).trans rfl⟩ (fun hHeld => ?_)
      clear hK K
      refine norm_ (a' := ?_) ?_ ?_
      rotate_left
      · show Act.put _ (some 11) _ = _
        simp only [Act.put, List.setIfInBounds_toArray, List.set_cons_zero, List.set_cons_succ, i64_w, i32_w]
        rfl
      refine three_ (i := 5) (j := 6) (k := 7) (Ni := some 14) (Nj := some 7) (Nk := some 8) #[true, true, true, true, true, true, false, false, false, false] #[true, true, true, true, true, false, true, false, false, false] #[true, true, true, true, true, false, false, true, false, false] rfl rfl rfl rfl rfl rfl (by kernel_rfl) (by decide) (by decide) (by decide) (fun K hK => ?_) (fun K hK => ?_) (fun K hK => ?_)
      · skip
        refine goes_ Tryd.func60 (by kernel_rfl) rfl #[.map (some b), .agg #[.int .i64 y.f0, .int .i64 y.f1, .string y.f2]] (by rfl) rfl rfl (by simp only [List.map_toArray, List.map_cons, List.map_nil]; rfl) ?_
        with_reducible refine (top_calls b (n + 1) D1 C1 y _ HM1.out HC1.out HI1.out OY.out (by have := HN.out; omega)).mono ?_
        rintro e w2_ ⟨ry, C2, D2, rfl, hT, hok, hC, hm, hg⟩
        refine ⟨_, rfl, ?_⟩
        have HM2 := Aside0.mk hm
        have HG2 := Aside0.mk (World.grownBy.trans HG1.out hg)
        have HT2 := Aside0.mk hT
        have OR2 := Aside0.mk hok
        have HC2 := Aside0.mk hC
        have HI2 := Aside0.mk (top_inv hT HI1.out OY.out)
        have KX2 := Aside0.mk (blk_grown KX1.out hg NX.out)
        have KY2 := Aside0.mk (blk_grown KY1.out hg NY.out)
        clear hT hok hC hm hg
        refine hK.out _ _ ⟨(blk_cell KX2.out 0).trans rfl, (blk_cell KX2.out 1).trans rfl, (blk_cell KX2.out 2).trans rfl, (blk_cell KY2.out 0).trans rfl, (blk_cell KY2.out 1).trans rfl, (blk_cell KY2.out 2).trans rfl⟩ (fun hHeld => ?_)
        clear hK K
        refine norm_ (a' := ?_) ?_ ?_
        rotate_left
        · show Act.put _ (some 14) _ = _
          simp only [Act.put, List.setIfInBounds_toArray, List.set_cons_zero, List.set_cons_succ, i64_w, i32_w]
          rfl
        refine two_ (i := 6) (j := 7) (Ni := some 7) (Nj := some 8) #[true, true, true, true, true, true, true, false, false, false] #[true, true, true, true, true, true, false, true, false, false] rfl rfl rfl rfl (by kernel_rfl) (by decide) (by decide) (fun K hK => ?_) (fun K hK => ?_)
        · skip
          refine box_step ?hg (N := 7) ?hd (cs := #[.int .i64 0, .int .i64 0, .string (⟨#[]⟩ : ByteArray)]) (t := 23) ?hr ?_
          (case hd => rfl)
          (case hg => rfl)
          (case hr => first | (go_simp; done) | (go_simp; rfl))
          intro b7 hgb w3_ hbox hb
          have HM3 := Aside0.mk (mapT_below HM2.out hb)
          have HG3 := Aside0.mk (World.grownBy.trans HG2.out (grown_of_below hb (some b)))
          have GA := Aside0.mk (show w.heap.size ≤ b7 by have := HG2.out.size; omega)
          have NA := Aside0.mk (show some b7 ≠ some b by have := HLT.out; have := GA.out; simp; omega)
          have KA3 := Aside0.mk hbox
          have KX3 := Aside0.mk (blk_below KX2.out hb)
          have KY3 := Aside0.mk (blk_below KY2.out hb)
          have NXA := Aside0.mk (show b4 ≠ b7 by have := blk_lt KX2.out; omega)
          have NYA := Aside0.mk (show b5 ≠ b7 by have := blk_lt KY2.out; omega)
          clear hgb hbox hb
          refine hK.out _ _ ⟨(blk_cell KX3.out 0).trans rfl, (blk_cell KX3.out 1).trans rfl, (blk_cell KX3.out 2).trans rfl, (blk_cell KY3.out 0).trans rfl, (blk_cell KY3.out 1).trans rfl, (blk_cell KY3.out 2).trans rfl⟩ (fun hHeld => ?_)
          clear hK K
          refine norm_ (a' := ?_) ?_ ?_
          rotate_left
          · show Act.put _ (some 7) _ = _
            simp only [Act.put, List.setIfInBounds_toArray, List.set_cons_zero, List.set_cons_succ, i64_w, i32_w]
            rfl
          refine one_ (i := 7) (N := some 8) #[true, true, true, true, true, true, true, true, false, false] rfl rfl (by kernel_rfl) (by decide) (fun K hK => ?_)
          refine box_step ?hg (N := 8) ?hd (cs := #[.int .i64 0, .int .i64 0, .string (⟨#[]⟩ : ByteArray)]) (t := 23) ?hr ?_
          (case hd => rfl)
          (case hg => rfl)
          (case hr => first | (go_simp; done) | (go_simp; rfl))
          intro b8 hgb w4_ hbox hb
          have HM4 := Aside0.mk (mapT_below HM3.out hb)
          have HG4 := Aside0.mk (World.grownBy.trans HG3.out (grown_of_below hb (some b)))
          have GB := Aside0.mk (show w.heap.size ≤ b8 by have := HG3.out.size; omega)
          have NB := Aside0.mk (show some b8 ≠ some b by have := HLT.out; have := GB.out; simp; omega)
          have KB4 := Aside0.mk hbox
          have KX4 := Aside0.mk (blk_below KX3.out hb)
          have KY4 := Aside0.mk (blk_below KY3.out hb)
          have KA4 := Aside0.mk (blk_below KA3.out hb)
          have NAB := Aside0.mk (show b7 ≠ b8 by have := blk_lt KA3.out; omega)
          have NXB := Aside0.mk (show b4 ≠ b8 by have := blk_lt KX3.out; omega)
          have NYB := Aside0.mk (show b5 ≠ b8 by have := blk_lt KY3.out; omega)
          clear hgb hbox hb
          refine hK.out _ _ ⟨(blk_cell KX4.out 0).trans rfl, (blk_cell KX4.out 1).trans rfl, (blk_cell KX4.out 2).trans rfl, (blk_cell KY4.out 0).trans rfl, (blk_cell KY4.out 1).trans rfl, (blk_cell KY4.out 2).trans rfl⟩ (fun hHeld => ?_)
          clear hK K
          refine norm_ (a' := ?_) ?_ ?_
          rotate_left
          · show Act.put _ (some 8) _ = _
            simp only [Act.put, List.setIfInBounds_toArray, List.set_cons_zero, List.set_cons_succ, i64_w, i32_w]
            rfl
          exact norm_ (by simp only [putAll, Act.put, List.setIfInBounds_toArray, List.set_cons_zero, List.set_cons_succ]) (hCont (rx, ry, b7, b8) _ ⟨C1, C2, D2, ⟨(blk_cell KX4.out 0).trans rfl, (blk_cell KX4.out 1).trans rfl, (blk_cell KX4.out 2).trans rfl, (blk_cell KY4.out 0).trans rfl, (blk_cell KY4.out 1).trans rfl, (blk_cell KY4.out 2).trans rfl⟩, HT1.out, HT2.out, OR1.out, OR2.out, HC2.out, HI2.out, HM4.out, HG4.out, KA4.out, KB4.out, GA.out, GB.out, NAB.out, KX4.out, KY4.out, ⟨NXA.out, NXB.out, NYA.out, NYB.out⟩⟩)
        · skip
          refine box_step ?hg (N := 8) ?hd (cs := #[.int .i64 0, .int .i64 0, .string (⟨#[]⟩ : ByteArray)]) (t := 23) ?hr ?_
          (case hd => rfl)
          (case hg => rfl)
          (case hr => first | (go_simp; done) | (go_simp; rfl))
          intro b8 hgb w3_ hbox hb
          have HM3 := Aside0.mk (mapT_below HM2.out hb)
          have HG3 := Aside0.mk (World.grownBy.trans HG2.out (grown_of_below hb (some b)))
          have GB := Aside0.mk (show w.heap.size ≤ b8 by have := HG2.out.size; omega)
          have NB := Aside0.mk (show some b8 ≠ some b by have := HLT.out; have := GB.out; simp; omega)
          have KB3 := Aside0.mk hbox
          have KX3 := Aside0.mk (blk_below KX2.out hb)
          have KY3 := Aside0.mk (blk_below KY2.out hb)
          have NXB := Aside0.mk (show b4 ≠ b8 by have := blk_lt KX2.out; omega)
          have NYB := Aside0.mk (show b5 ≠ b8 by have := blk_lt KY2.out; omega)
          clear hgb hbox hb
          refine hK.out _ _ ⟨(blk_cell KX3.out 0).trans rfl, (blk_cell KX3.out 1).trans rfl, (blk_cell KX3.out 2).trans rfl, (blk_cell KY3.out 0).trans rfl, (blk_cell KY3.out 1).trans rfl, (blk_cell KY3.out 2).trans rfl⟩ (fun hHeld => ?_)
          clear hK K
          refine norm_ (a' := ?_) ?_ ?_
          rotate_left
          · show Act.put _ (some 8) _ = _
            simp only [Act.put, List.setIfInBounds_toArray, List.set_cons_zero, List.set_cons_succ, i64_w, i32_w]
            rfl
          refine one_ (i := 6) (N := some 7) #[true, true, true, true, true, true, true, true, false, false] rfl rfl (by kernel_rfl) (by decide) (fun K hK => ?_)
          refine box_step ?hg (N := 7) ?hd (cs := #[.int .i64 0, .int .i64 0, .string (⟨#[]⟩ : ByteArray)]) (t := 23) ?hr ?_
          (case hd => rfl)
          (case hg => rfl)
          (case hr => first | (go_simp; done) | (go_simp; rfl))
          intro b7 hgb w4_ hbox hb
          have HM4 := Aside0.mk (mapT_below HM3.out hb)
          have HG4 := Aside0.mk (World.grownBy.trans HG3.out (grown_of_below hb (some b)))
          have GA := Aside0.mk (show w.heap.size ≤ b7 by have := HG3.out.size; omega)
          have NA := Aside0.mk (show some b7 ≠ some b by have := HLT.out; have := GA.out; simp; omega)
          have KA4 := Aside0.mk hbox
          have KX4 := Aside0.mk (blk_below KX3.out hb)
          have KY4 := Aside0.mk (blk_below KY3.out hb)
          have KB4 := Aside0.mk (blk_below KB3.out hb)
          have NAB := Aside0.mk (show b7 ≠ b8 by have := blk_lt KB3.out; omega)
          have NXA := Aside0.mk (show b4 ≠ b7 by have := blk_lt KX3.out; omega)
          have NYA := Aside0.mk (show b5 ≠ b7 by have := blk_lt KY3.out; omega)
          clear hgb hbox hb
          refine hK.out _ _ ⟨(blk_cell KX4.out 0).trans rfl, (blk_cell KX4.out 1).trans rfl, (blk_cell KX4.out 2).trans rfl, (blk_cell KY4.out 0).trans rfl, (blk_cell KY4.out 1).trans rfl, (blk_cell KY4.out 2).trans rfl⟩ (fun hHeld => ?_)
          clear hK K
          refine norm_ (a' := ?_) ?_ ?_
          rotate_left
          · show Act.put _ (some 7) _ = _
            simp only [Act.put, List.setIfInBounds_toArray, List.set_cons_zero, List.set_cons_succ, i64_w, i32_w]
            rfl
          exact norm_ (by simp only [putAll, Act.put, List.setIfInBounds_toArray, List.set_cons_zero, List.set_cons_succ]) (hCont (rx, ry, b7, b8) _ ⟨C1, C2, D2, ⟨(blk_cell KX4.out 0).trans rfl, (blk_cell KX4.out 1).trans rfl, (blk_cell KX4.out 2).trans rfl, (blk_cell KY4.out 0).trans rfl, (blk_cell KY4.out 1).trans rfl, (blk_cell KY4.out 2).trans rfl⟩, HT1.out, HT2.out, OR1.out, OR2.out, HC2.out, HI2.out, HM4.out, HG4.out, KA4.out, KB4.out, GA.out, GB.out, NAB.out, KX4.out, KY4.out, ⟨NXA.out, NXB.out, NYA.out, NYB.out⟩⟩)
      · skip
        refine box_step ?hg (N := 7) ?hd (cs := #[.int .i64 0, .int .i64 0, .string (⟨#[]⟩ : ByteArray)]) (t := 23) ?hr ?_
        (case hd => rfl)
        (case hg => rfl)
        (case hr => first | (go_simp; done) | (go_simp; rfl))
        intro b7 hgb w2_ hbox hb
        have HM2 := Aside0.mk (mapT_below HM1.out hb)
        have HG2 := Aside0.mk (World.grownBy.trans HG1.out (grown_of_below hb (some b)))
        have GA := Aside0.mk (show w.heap.size ≤ b7 by have := HG1.out.size; omega)
        have NA := Aside0.mk (show some b7 ≠ some b by have := HLT.out; have := GA.out; simp; omega)
        have KA2 := Aside0.mk hbox
        have KX2 := Aside0.mk (blk_below KX1.out hb)
        have KY2 := Aside0.mk (blk_below KY1.out hb)
        have NXA := Aside0.mk (show b4 ≠ b7 by have := blk_lt KX1.out; omega)
        have NYA := Aside0.mk (show b5 ≠ b7 by have := blk_lt KY1.out; omega)
        clear hgb hbox hb
        refine hK.out _ _ ⟨(blk_cell KX2.out 0).trans rfl, (blk_cell KX2.out 1).trans rfl, (blk_cell KX2.out 2).trans rfl, (blk_cell KY2.out 0).trans rfl, (blk_cell KY2.out 1).trans rfl, (blk_cell KY2.out 2).trans rfl⟩ (fun hHeld => ?_)
        clear hK K
        refine norm_ (a' := ?_) ?_ ?_
        rotate_left
        · show Act.put _ (some 7) _ = _
          simp only [Act.put, List.setIfInBounds_toArray, List.set_cons_zero, List.set_cons_succ, i64_w, i32_w]
          rfl
        refine two_ (i := 5) (j := 7) (Ni := some 14) (Nj := some 8) #[true, true, true, true, true, true, true, false, false, false] #[true, true, true, true, true, false, true, true, false, false] rfl rfl rfl rfl (by kernel_rfl) (by decide) (by decide) (fun K hK => ?_) (fun K hK => ?_)
        · skip
          refine goes_ Tryd.func60 (by kernel_rfl) rfl #[.map (some b), .agg #[.int .i64 y.f0, .int .i64 y.f1, .string y.f2]] (by rfl) rfl rfl (by simp only [List.map_toArray, List.map_cons, List.map_nil]; rfl) ?_
          with_reducible refine (top_calls b (n + 1) D1 C1 y _ HM2.out HC1.out HI1.out OY.out (by have := HN.out; omega)).mono ?_
          rintro e w3_ ⟨ry, C2, D2, rfl, hT, hok, hC, hm, hg⟩
          refine ⟨_, rfl, ?_⟩
          have HM3 := Aside0.mk hm
          have HG3 := Aside0.mk (World.grownBy.trans HG2.out hg)
          have HT2 := Aside0.mk hT
          have OR2 := Aside0.mk hok
          have HC2 := Aside0.mk hC
          have HI2 := Aside0.mk (top_inv hT HI1.out OY.out)
          have KX3 := Aside0.mk (blk_grown KX2.out hg NX.out)
          have KY3 := Aside0.mk (blk_grown KY2.out hg NY.out)
          have KA3 := Aside0.mk (blk_grown KA2.out hg NA.out)
          clear hT hok hC hm hg
          refine hK.out _ _ ⟨(blk_cell KX3.out 0).trans rfl, (blk_cell KX3.out 1).trans rfl, (blk_cell KX3.out 2).trans rfl, (blk_cell KY3.out 0).trans rfl, (blk_cell KY3.out 1).trans rfl, (blk_cell KY3.out 2).trans rfl⟩ (fun hHeld => ?_)
          clear hK K
          refine norm_ (a' := ?_) ?_ ?_
          rotate_left
          · show Act.put _ (some 14) _ = _
            simp only [Act.put, List.setIfInBounds_toArray, List.set_cons_zero, List.set_cons_succ, i64_w, i32_w]
            rfl
          refine one_ (i := 7) (N := some 8) #[true, true, true, true, true, true, true, true, false, false] rfl rfl (by kernel_rfl) (by decide) (fun K hK => ?_)
          refine box_step ?hg (N := 8) ?hd (cs := #[.int .i64 0, .int .i64 0, .string (⟨#[]⟩ : ByteArray)]) (t := 23) ?hr ?_
          (case hd => rfl)
          (case hg => rfl)
          (case hr => first | (go_simp; done) | (go_simp; rfl))
          intro b8 hgb w4_ hbox hb
          have HM4 := Aside0.mk (mapT_below HM3.out hb)
          have HG4 := Aside0.mk (World.grownBy.trans HG3.out (grown_of_below hb (some b)))
          have GB := Aside0.mk (show w.heap.size ≤ b8 by have := HG3.out.size; omega)
          have NB := Aside0.mk (show some b8 ≠ some b by have := HLT.out; have := GB.out; simp; omega)
          have KB4 := Aside0.mk hbox
          have KX4 := Aside0.mk (blk_below KX3.out hb)
          have KY4 := Aside0.mk (blk_below KY3.out hb)
          have KA4 := Aside0.mk (blk_below KA3.out hb)
          have NAB := Aside0.mk (show b7 ≠ b8 by have := blk_lt KA3.out; omega)
          have NXB := Aside0.mk (show b4 ≠ b8 by have := blk_lt KX3.out; omega)
          have NYB := Aside0.mk (show b5 ≠ b8 by have := blk_lt KY3.out; omega)
          clear hgb hbox hb
          refine hK.out _ _ ⟨(blk_cell KX4.out 0).trans rfl, (blk_cell KX4.out 1).trans rfl, (blk_cell KX4.out 2).trans rfl, (blk_cell KY4.out 0).trans rfl, (blk_cell KY4.out 1).trans rfl, (blk_cell KY4.out 2).trans rfl⟩ (fun hHeld => ?_)
          clear hK K
          refine norm_ (a' := ?_) ?_ ?_
          rotate_left
          · show Act.put _ (some 8) _ = _
            simp only [Act.put, List.setIfInBounds_toArray, List.set_cons_zero, List.set_cons_succ, i64_w, i32_w]
            rfl
          exact norm_ (by simp only [putAll, Act.put, List.setIfInBounds_toArray, List.set_cons_zero, List.set_cons_succ]) (hCont (rx, ry, b7, b8) _ ⟨C1, C2, D2, ⟨(blk_cell KX4.out 0).trans rfl, (blk_cell KX4.out 1).trans rfl, (blk_cell KX4.out 2).trans rfl, (blk_cell KY4.out 0).trans rfl, (blk_cell KY4.out 1).trans rfl, (blk_cell KY4.out 2).trans rfl⟩, HT1.out, HT2.out, OR1.out, OR2.out, HC2.out, HI2.out, HM4.out, HG4.out, KA4.out, KB4.out, GA.out, GB.out, NAB.out, KX4.out, KY4.out, ⟨NXA.out, NXB.out, NYA.out, NYB.out⟩⟩)
        · skip
          refine box_step ?hg (N := 8) ?hd (cs := #[.int .i64 0, .int .i64 0, .string (⟨#[]⟩ : ByteArray)]) (t := 23) ?hr ?_
          (case hd => rfl)
          (case hg => rfl)
          (case hr => first | (go_simp; done) | (go_simp; rfl))
          intro b8 hgb w3_ hbox hb
          have HM3 := Aside0.mk (mapT_below HM2.out hb)
          have HG3 := Aside0.mk (World.grownBy.trans HG2.out (grown_of_below hb (some b)))
          have GB := Aside0.mk (show w.heap.size ≤ b8 by have := HG2.out.size; omega)
          have NB := Aside0.mk (show some b8 ≠ some b by have := HLT.out; have := GB.out; simp; omega)
          have KB3 := Aside0.mk hbox
          have KX3 := Aside0.mk (blk_below KX2.out hb)
          have KY3 := Aside0.mk (blk_below KY2.out hb)
          have KA3 := Aside0.mk (blk_below KA2.out hb)
          have NAB := Aside0.mk (show b7 ≠ b8 by have := blk_lt KA2.out; omega)
          have NXB := Aside0.mk (show b4 ≠ b8 by have := blk_lt KX2.out; omega)
          have NYB := Aside0.mk (show b5 ≠ b8 by have := blk_lt KY2.out; omega)
          clear hgb hbox hb
          refine hK.out _ _ ⟨(blk_cell KX3.out 0).trans rfl, (blk_cell KX3.out 1).trans rfl, (blk_cell KX3.out 2).trans rfl, (blk_cell KY3.out 0).trans rfl, (blk_cell KY3.out 1).trans rfl, (blk_cell KY3.out 2).trans rfl⟩ (fun hHeld => ?_)
          clear hK K
          refine norm_ (a' := ?_) ?_ ?_
          rotate_left
          · show Act.put _ (some 8) _ = _
            simp only [Act.put, List.setIfInBounds_toArray, List.set_cons_zero, List.set_cons_succ, i64_w, i32_w]
            rfl
          refine one_ (i := 5) (N := some 14) #[true, true, true, true, true, true, true, true, false, false] rfl rfl (by kernel_rfl) (by decide) (fun K hK => ?_)
          refine goes_ Tryd.func60 (by kernel_rfl) rfl #[.map (some b), .agg #[.int .i64 y.f0, .int .i64 y.f1, .string y.f2]] (by rfl) rfl rfl (by simp only [List.map_toArray, List.map_cons, List.map_nil]; rfl) ?_
          with_reducible refine (top_calls b (n + 1) D1 C1 y _ HM3.out HC1.out HI1.out OY.out (by have := HN.out; omega)).mono ?_
          rintro e w4_ ⟨ry, C2, D2, rfl, hT, hok, hC, hm, hg⟩
          refine ⟨_, rfl, ?_⟩
          have HM4 := Aside0.mk hm
          have HG4 := Aside0.mk (World.grownBy.trans HG3.out hg)
          have HT2 := Aside0.mk hT
          have OR2 := Aside0.mk hok
          have HC2 := Aside0.mk hC
          have HI2 := Aside0.mk (top_inv hT HI1.out OY.out)
          have KX4 := Aside0.mk (blk_grown KX3.out hg NX.out)
          have KY4 := Aside0.mk (blk_grown KY3.out hg NY.out)
          have KA4 := Aside0.mk (blk_grown KA3.out hg NA.out)
          have KB4 := Aside0.mk (blk_grown KB3.out hg NB.out)
          clear hT hok hC hm hg
          refine hK.out _ _ ⟨(blk_cell KX4.out 0).trans rfl, (blk_cell KX4.out 1).trans rfl, (blk_cell KX4.out 2).trans rfl, (blk_cell KY4.out 0).trans rfl, (blk_cell KY4.out 1).trans rfl, (blk_cell KY4.out 2).trans rfl⟩ (fun hHeld => ?_)
          clear hK K
          refine norm_ (a' := ?_) ?_ ?_
          rotate_left
          · show Act.put _ (some 14) _ = _
            simp only [Act.put, List.setIfInBounds_toArray, List.set_cons_zero, List.set_cons_succ, i64_w, i32_w]
            rfl
          exact norm_ (by simp only [putAll, Act.put, List.setIfInBounds_toArray, List.set_cons_zero, List.set_cons_succ]) (hCont (rx, ry, b7, b8) _ ⟨C1, C2, D2, ⟨(blk_cell KX4.out 0).trans rfl, (blk_cell KX4.out 1).trans rfl, (blk_cell KX4.out 2).trans rfl, (blk_cell KY4.out 0).trans rfl, (blk_cell KY4.out 1).trans rfl, (blk_cell KY4.out 2).trans rfl⟩, HT1.out, HT2.out, OR1.out, OR2.out, HC2.out, HI2.out, HM4.out, HG4.out, KA4.out, KB4.out, GA.out, GB.out, NAB.out, KX4.out, KY4.out, ⟨NXA.out, NXB.out, NYA.out, NYB.out⟩⟩)
      · skip
        refine box_step ?hg (N := 8) ?hd (cs := #[.int .i64 0, .int .i64 0, .string (⟨#[]⟩ : ByteArray)]) (t := 23) ?hr ?_
        (case hd => rfl)
        (case hg => rfl)
        (case hr => first | (go_simp; done) | (go_simp; rfl))
        intro b8 hgb w2_ hbox hb
        have HM2 := Aside0.mk (mapT_below HM1.out hb)
        have HG2 := Aside0.mk (World.grownBy.trans HG1.out (grown_of_below hb (some b)))
        have GB := Aside0.mk (show w.heap.size ≤ b8 by have := HG1.out.size; omega)
        have NB := Aside0.mk (show some b8 ≠ some b by have := HLT.out; have := GB.out; simp; omega)
        have KB2 := Aside0.mk hbox
        have KX2 := Aside0.mk (blk_below KX1.out hb)
        have KY2 := Aside0.mk (blk_below KY1.out hb)
        have NXB := Aside0.mk (show b4 ≠ b8 by have := blk_lt KX1.out; omega)
        have NYB := Aside0.mk (show b5 ≠ b8 by have := blk_lt KY1.out; omega)
        clear hgb hbox hb
        refine hK.out _ _ ⟨(blk_cell KX2.out 0).trans rfl, (blk_cell KX2.out 1).trans rfl, (blk_cell KX2.out 2).trans rfl, (blk_cell KY2.out 0).trans rfl, (blk_cell KY2.out 1).trans rfl, (blk_cell KY2.out 2).trans rfl⟩ (fun hHeld => ?_)
        clear hK K
        refine norm_ (a' := ?_) ?_ ?_
        rotate_left
        · show Act.put _ (some 8) _ = _
          simp only [Act.put, List.setIfInBounds_toArray, List.set_cons_zero, List.set_cons_succ, i64_w, i32_w]
          rfl
        refine two_ (i := 5) (j := 6) (Ni := some 14) (Nj := some 7) #[true, true, true, true, true, true, false, true, false, false] #[true, true, true, true, true, false, true, true, false, false] rfl rfl rfl rfl (by kernel_rfl) (by decide) (by decide) (fun K hK => ?_) (fun K hK => ?_)
        · skip
          refine goes_ Tryd.func60 (by kernel_rfl) rfl #[.map (some b), .agg #[.int .i64 y.f0, .int .i64 y.f1, .string y.f2]] (by rfl) rfl rfl (by simp only [List.map_toArray, List.map_cons, List.map_nil]; rfl) ?_
          with_reducible refine (top_calls b (n + 1) D1 C1 y _ HM2.out HC1.out HI1.out OY.out (by have := HN.out; omega)).mono ?_
          rintro e w3_ ⟨ry, C2, D2, rfl, hT, hok, hC, hm, hg⟩
          refine ⟨_, rfl, ?_⟩
          have HM3 := Aside0.mk hm
          have HG3 := Aside0.mk (World.grownBy.trans HG2.out hg)
          have HT2 := Aside0.mk hT
          have OR2 := Aside0.mk hok
          have HC2 := Aside0.mk hC
          have HI2 := Aside0.mk (top_inv hT HI1.out OY.out)
          have KX3 := Aside0.mk (blk_grown KX2.out hg NX.out)
          have KY3 := Aside0.mk (blk_grown KY2.out hg NY.out)
          have KB3 := Aside0.mk (blk_grown KB2.out hg NB.out)
          clear hT hok hC hm hg
          refine hK.out _ _ ⟨(blk_cell KX3.out 0).trans rfl, (blk_cell KX3.out 1).trans rfl, (blk_cell KX3.out 2).trans rfl, (blk_cell KY3.out 0).trans rfl, (blk_cell KY3.out 1).trans rfl, (blk_cell KY3.out 2).trans rfl⟩ (fun hHeld => ?_)
          clear hK K
          refine norm_ (a' := ?_) ?_ ?_
          rotate_left
          · show Act.put _ (some 14) _ = _
            simp only [Act.put, List.setIfInBounds_toArray, List.set_cons_zero, List.set_cons_succ, i64_w, i32_w]
            rfl
          refine one_ (i := 6) (N := some 7) #[true, true, true, true, true, true, true, true, false, false] rfl rfl (by kernel_rfl) (by decide) (fun K hK => ?_)
          refine box_step ?hg (N := 7) ?hd (cs := #[.int .i64 0, .int .i64 0, .string (⟨#[]⟩ : ByteArray)]) (t := 23) ?hr ?_
          (case hd => rfl)
          (case hg => rfl)
          (case hr => first | (go_simp; done) | (go_simp; rfl))
          intro b7 hgb w4_ hbox hb
          have HM4 := Aside0.mk (mapT_below HM3.out hb)
          have HG4 := Aside0.mk (World.grownBy.trans HG3.out (grown_of_below hb (some b)))
          have GA := Aside0.mk (show w.heap.size ≤ b7 by have := HG3.out.size; omega)
          have NA := Aside0.mk (show some b7 ≠ some b by have := HLT.out; have := GA.out; simp; omega)
          have KA4 := Aside0.mk hbox
          have KX4 := Aside0.mk (blk_below KX3.out hb)
          have KY4 := Aside0.mk (blk_below KY3.out hb)
          have KB4 := Aside0.mk (blk_below KB3.out hb)
          have NAB := Aside0.mk (show b7 ≠ b8 by have := blk_lt KB3.out; omega)
          have NXA := Aside0.mk (show b4 ≠ b7 by have := blk_lt KX3.out; omega)
          have NYA := Aside0.mk (show b5 ≠ b7 by have := blk_lt KY3.out; omega)
          clear hgb hbox hb
          refine hK.out _ _ ⟨(blk_cell KX4.out 0).trans rfl, (blk_cell KX4.out 1).trans rfl, (blk_cell KX4.out 2).trans rfl, (blk_cell KY4.out 0).trans rfl, (blk_cell KY4.out 1).trans rfl, (blk_cell KY4.out 2).trans rfl⟩ (fun hHeld => ?_)
          clear hK K
          refine norm_ (a' := ?_) ?_ ?_
          rotate_left
          · show Act.put _ (some 7) _ = _
            simp only [Act.put, List.setIfInBounds_toArray, List.set_cons_zero, List.set_cons_succ, i64_w, i32_w]
            rfl
          exact norm_ (by simp only [putAll, Act.put, List.setIfInBounds_toArray, List.set_cons_zero, List.set_cons_succ]) (hCont (rx, ry, b7, b8) _ ⟨C1, C2, D2, ⟨(blk_cell KX4.out 0).trans rfl, (blk_cell KX4.out 1).trans rfl, (blk_cell KX4.out 2).trans rfl, (blk_cell KY4.out 0).trans rfl, (blk_cell KY4.out 1).trans rfl, (blk_cell KY4.out 2).trans rfl⟩, HT1.out, HT2.out, OR1.out, OR2.out, HC2.out, HI2.out, HM4.out, HG4.out, KA4.out, KB4.out, GA.out, GB.out, NAB.out, KX4.out, KY4.out, ⟨NXA.out, NXB.out, NYA.out, NYB.out⟩⟩)
        · skip
          refine box_step ?hg (N := 7) ?hd (cs := #[.int .i64 0, .int .i64 0, .string (⟨#[]⟩ : ByteArray)]) (t := 23) ?hr ?_
          (case hd => rfl)
          (case hg => rfl)
          (case hr => first | (go_simp; done) | (go_simp; rfl))
          intro b7 hgb w3_ hbox hb
          have HM3 := Aside0.mk (mapT_below HM2.out hb)
          have HG3 := Aside0.mk (World.grownBy.trans HG2.out (grown_of_below hb (some b)))
          have GA := Aside0.mk (show w.heap.size ≤ b7 by have := HG2.out.size; omega)
          have NA := Aside0.mk (show some b7 ≠ some b by have := HLT.out; have := GA.out; simp; omega)
          have KA3 := Aside0.mk hbox
          have KX3 := Aside0.mk (blk_below KX2.out hb)
          have KY3 := Aside0.mk (blk_below KY2.out hb)
          have KB3 := Aside0.mk (blk_below KB2.out hb)
          have NAB := Aside0.mk (show b7 ≠ b8 by have := blk_lt KB2.out; omega)
          have NXA := Aside0.mk (show b4 ≠ b7 by have := blk_lt KX2.out; omega)
          have NYA := Aside0.mk (show b5 ≠ b7 by have := blk_lt KY2.out; omega)
          clear hgb hbox hb
          refine hK.out _ _ ⟨(blk_cell KX3.out 0).trans rfl, (blk_cell KX3.out 1).trans rfl, (blk_cell KX3.out 2).trans rfl, (blk_cell KY3.out 0).trans rfl, (blk_cell KY3.out 1).trans rfl, (blk_cell KY3.out 2).trans rfl⟩ (fun hHeld => ?_)
          clear hK K
          refine norm_ (a' := ?_) ?_ ?_
          rotate_left
          · show Act.put _ (some 7) _ = _
            simp only [Act.put, List.setIfInBounds_toArray, List.set_cons_zero, List.set_cons_succ, i64_w, i32_w]
            rfl
          refine one_ (i := 5) (N := some 14) #[true, true, true, true, true, true, true, true, false, false] rfl rfl (by kernel_rfl) (by decide) (fun K hK => ?_)
          refine goes_ Tryd.func60 (by kernel_rfl) rfl #[.map (some b), .agg #[.int .i64 y.f0, .int .i64 y.f1, .string y.f2]] (by rfl) rfl rfl (by simp only [List.map_toArray, List.map_cons, List.map_nil]; rfl) ?_
          with_reducible refine (top_calls b (n + 1) D1 C1 y _ HM3.out HC1.out HI1.out OY.out (by have := HN.out; omega)).mono ?_
          rintro e w4_ ⟨ry, C2, D2, rfl, hT, hok, hC, hm, hg⟩
          refine ⟨_, rfl, ?_⟩
          have HM4 := Aside0.mk hm
          have HG4 := Aside0.mk (World.grownBy.trans HG3.out hg)
          have HT2 := Aside0.mk hT
          have OR2 := Aside0.mk hok
          have HC2 := Aside0.mk hC
          have HI2 := Aside0.mk (top_inv hT HI1.out OY.out)
          have KX4 := Aside0.mk (blk_grown KX3.out hg NX.out)
          have KY4 := Aside0.mk (blk_grown KY3.out hg NY.out)
          have KA4 := Aside0.mk (blk_grown KA3.out hg NA.out)
          have KB4 := Aside0.mk (blk_grown KB3.out hg NB.out)
          clear hT hok hC hm hg
          refine hK.out _ _ ⟨(blk_cell KX4.out 0).trans rfl, (blk_cell KX4.out 1).trans rfl, (blk_cell KX4.out 2).trans rfl, (blk_cell KY4.out 0).trans rfl, (blk_cell KY4.out 1).trans rfl, (blk_cell KY4.out 2).trans rfl⟩ (fun hHeld => ?_)
          clear hK K
          refine norm_ (a' := ?_) ?_ ?_
          rotate_left
          · show Act.put _ (some 14) _ = _
            simp only [Act.put, List.setIfInBounds_toArray, List.set_cons_zero, List.set_cons_succ, i64_w, i32_w]
            rfl
          exact norm_ (by simp only [putAll, Act.put, List.setIfInBounds_toArray, List.set_cons_zero, List.set_cons_succ]) (hCont (rx, ry, b7, b8) _ ⟨C1, C2, D2, ⟨(blk_cell KX4.out 0).trans rfl, (blk_cell KX4.out 1).trans rfl, (blk_cell KX4.out 2).trans rfl, (blk_cell KY4.out 0).trans rfl, (blk_cell KY4.out 1).trans rfl, (blk_cell KY4.out 2).trans rfl⟩, HT1.out, HT2.out, OR1.out, OR2.out, HC2.out, HI2.out, HM4.out, HG4.out, KA4.out, KB4.out, GA.out, GB.out, NAB.out, KX4.out, KY4.out, ⟨NXA.out, NXB.out, NYA.out, NYB.out⟩⟩)
    · skip
      refine box_step ?hg (N := 7) ?hd (cs := #[.int .i64 0, .int .i64 0, .string (⟨#[]⟩ : ByteArray)]) (t := 23) ?hr ?_
      (case hd => rfl)
      (case hg => rfl)
      (case hr => first | (go_simp; done) | (go_simp; rfl))
      intro b7 hgb w1_ hbox hb
      have HM1 := Aside0.mk (mapT_below HM0.out hb)
      have HG1 := Aside0.mk (World.grownBy.trans HG0.out (grown_of_below hb (some b)))
      have GA := Aside0.mk (show w.heap.size ≤ b7 by have := HG0.out.size; omega)
      have NA := Aside0.mk (show some b7 ≠ some b by have := HLT.out; have := GA.out; simp; omega)
      have KA1 := Aside0.mk hbox
      have KX1 := Aside0.mk (blk_below KX0.out hb)
      have KY1 := Aside0.mk (blk_below KY0.out hb)
      have NXA := Aside0.mk (show b4 ≠ b7 by have := blk_lt KX0.out; omega)
      have NYA := Aside0.mk (show b5 ≠ b7 by have := blk_lt KY0.out; omega)
      clear hgb hbox hb
      refine hK.out _ _ ⟨(blk_cell KX1.out 0).trans rfl, (blk_cell KX1.out 1).trans rfl, (blk_cell KX1.out 2).trans rfl, (blk_cell KY1.out 0).trans rfl, (blk_cell KY1.out 1).trans rfl, (blk_cell KY1.out 2).trans rfl⟩ (fun hHeld => ?_)
      clear hK K
      refine norm_ (a' := ?_) ?_ ?_
      rotate_left
      · show Act.put _ (some 7) _ = _
        simp only [Act.put, List.setIfInBounds_toArray, List.set_cons_zero, List.set_cons_succ, i64_w, i32_w]
        rfl
      refine two_ (i := 2) (j := 7) (Ni := some 11) (Nj := some 8) #[true, true, true, true, true, false, true, false, false, false] #[true, true, false, true, true, false, true, true, false, false] rfl rfl rfl rfl (by kernel_rfl) (by decide) (by decide) (fun K hK => ?_) (fun K hK => ?_)
      · skip
        refine goes_ Tryd.func60 (by kernel_rfl) rfl #[.map (some b), .agg #[.int .i64 x.f0, .int .i64 x.f1, .string x.f2]] (by rfl) rfl rfl (by simp only [List.map_toArray, List.map_cons, List.map_nil]; rfl) ?_
        with_reducible refine (top_calls b n D C x _ HM1.out HC.out HI.out OX.out (by have := HN.out; omega)).mono ?_
        rintro e w2_ ⟨rx, C1, D1, rfl, hT, hok, hC, hm, hg⟩
        refine ⟨_, rfl, ?_⟩
        have HM2 := Aside0.mk hm
        have HG2 := Aside0.mk (World.grownBy.trans HG1.out hg)
        have HT1 := Aside0.mk hT
        have OR1 := Aside0.mk hok
        have HC1 := Aside0.mk hC
        have HI1 := Aside0.mk (top_inv hT HI.out OX.out)
        have KX2 := Aside0.mk (blk_grown KX1.out hg NX.out)
        have KY2 := Aside0.mk (blk_grown KY1.out hg NY.out)
        have KA2 := Aside0.mk (blk_grown KA1.out hg NA.out)
        clear hT hok hC hm hg
        refine hK.out _ _ ⟨(blk_cell KX2.out 0).trans rfl, (blk_cell KX2.out 1).trans rfl, (blk_cell KX2.out 2).trans rfl, (blk_cell KY2.out 0).trans rfl, (blk_cell KY2.out 1).trans rfl, (blk_cell KY2.out 2).trans rfl⟩ (fun hHeld => ?_)
        clear hK K
        refine norm_ (a' := ?_) ?_ ?_
        rotate_left
        · show Act.put _ (some 11) _ = _
          simp only [Act.put, List.setIfInBounds_toArray, List.set_cons_zero, List.set_cons_succ, i64_w, i32_w]
          rfl
        refine two_ (i := 5) (j := 7) (Ni := some 14) (Nj := some 8) #[true, true, true, true, true, true, true, false, false, false] #[true, true, true, true, true, false, true, true, false, false] rfl rfl rfl rfl (by kernel_rfl) (by decide) (by decide) (fun K hK => ?_) (fun K hK => ?_)
        · skip
          refine goes_ Tryd.func60 (by kernel_rfl) rfl #[.map (some b), .agg #[.int .i64 y.f0, .int .i64 y.f1, .string y.f2]] (by rfl) rfl rfl (by simp only [List.map_toArray, List.map_cons, List.map_nil]; rfl) ?_
          with_reducible refine (top_calls b (n + 1) D1 C1 y _ HM2.out HC1.out HI1.out OY.out (by have := HN.out; omega)).mono ?_
          rintro e w3_ ⟨ry, C2, D2, rfl, hT, hok, hC, hm, hg⟩
          refine ⟨_, rfl, ?_⟩
          have HM3 := Aside0.mk hm
          have HG3 := Aside0.mk (World.grownBy.trans HG2.out hg)
          have HT2 := Aside0.mk hT
          have OR2 := Aside0.mk hok
          have HC2 := Aside0.mk hC
          have HI2 := Aside0.mk (top_inv hT HI1.out OY.out)
          have KX3 := Aside0.mk (blk_grown KX2.out hg NX.out)
          have KY3 := Aside0.mk (blk_grown KY2.out hg NY.out)
          have KA3 := Aside0.mk (blk_grown KA2.out hg NA.out)
          clear hT hok hC hm hg
          refine hK.out _ _ ⟨(blk_cell KX3.out 0).trans rfl, (blk_cell KX3.out 1).trans rfl, (blk_cell KX3.out 2).trans rfl, (blk_cell KY3.out 0).trans rfl, (blk_cell KY3.out 1).trans rfl, (blk_cell KY3.out 2).trans rfl⟩ (fun hHeld => ?_)
          clear hK K
          refine norm_ (a' := ?_) ?_ ?_
          rotate_left
          · show Act.put _ (some 14) _ = _
            simp only [Act.put, List.setIfInBounds_toArray, List.set_cons_zero, List.set_cons_succ, i64_w, i32_w]
            rfl
          refine one_ (i := 7) (N := some 8) #[true, true, true, true, true, true, true, true, false, false] rfl rfl (by kernel_rfl) (by decide) (fun K hK => ?_)
          refine box_step ?hg (N := 8) ?hd (cs := #[.int .i64 0, .int .i64 0, .string (⟨#[]⟩ : ByteArray)]) (t := 23) ?hr ?_
          (case hd => rfl)
          (case hg => rfl)
          (case hr => first | (go_simp; done) | (go_simp; rfl))
          intro b8 hgb w4_ hbox hb
          have HM4 := Aside0.mk (mapT_below HM3.out hb)
          have HG4 := Aside0.mk (World.grownBy.trans HG3.out (grown_of_below hb (some b)))
          have GB := Aside0.mk (show w.heap.size ≤ b8 by have := HG3.out.size; omega)
          have NB := Aside0.mk (show some b8 ≠ some b by have := HLT.out; have := GB.out; simp; omega)
          have KB4 := Aside0.mk hbox
          have KX4 := Aside0.mk (blk_below KX3.out hb)
          have KY4 := Aside0.mk (blk_below KY3.out hb)
          have KA4 := Aside0.mk (blk_below KA3.out hb)
          have NAB := Aside0.mk (show b7 ≠ b8 by have := blk_lt KA3.out; omega)
          have NXB := Aside0.mk (show b4 ≠ b8 by have := blk_lt KX3.out; omega)
          have NYB := Aside0.mk (show b5 ≠ b8 by have := blk_lt KY3.out; omega)
          clear hgb hbox hb
          refine hK.out _ _ ⟨(blk_cell KX4.out 0).trans rfl, (blk_cell KX4.out 1).trans rfl, (blk_cell KX4.out 2).trans rfl, (blk_cell KY4.out 0).trans rfl, (blk_cell KY4.out 1).trans rfl, (blk_cell KY4.out 2).trans rfl⟩ (fun hHeld => ?_)
          clear hK K
          refine norm_ (a' := ?_) ?_ ?_
          rotate_left
          · show Act.put _ (some 8) _ = _
            simp only [Act.put, List.setIfInBounds_toArray, List.set_cons_zero, List.set_cons_succ, i64_w, i32_w]
            rfl
          exact norm_ (by simp only [putAll, Act.put, List.setIfInBounds_toArray, List.set_cons_zero, List.set_cons_succ]) (hCont (rx, ry, b7, b8) _ ⟨C1, C2, D2, ⟨(blk_cell KX4.out 0).trans rfl, (blk_cell KX4.out 1).trans rfl, (blk_cell KX4.out 2).trans rfl, (blk_cell KY4.out 0).trans rfl, (blk_cell KY4.out 1).trans rfl, (blk_cell KY4.out 2).trans rfl⟩, HT1.out, HT2.out, OR1.out, OR2.out, HC2.out, HI2.out, HM4.out, HG4.out, KA4.out, KB4.out, GA.out, GB.out, NAB.out, KX4.out, KY4.out, ⟨NXA.out, NXB.out, NYA.out, NYB.out⟩⟩)
        · skip
          refine box_step ?hg (N := 8) ?hd (cs := #[.int .i64 0, .int .i64 0, .string (⟨#[]⟩ : ByteArray)]) (t := 23) ?hr ?_
          (case hd => rfl)
          (case hg => rfl)
          (case hr => first | (go_simp; done) | (go_simp; rfl))
          intro b8 hgb w3_ hbox hb
          have HM3 := Aside0.mk (mapT_below HM2.out hb)
          have HG3 := Aside0.mk (World.grownBy.trans HG2.out (grown_of_below hb (some b)))
          have GB := Aside0.mk (show w.heap.size ≤ b8 by have := HG2.out.size; omega)
          have NB := Aside0.mk (show some b8 ≠ some b by have := HLT.out; have := GB.out; simp; omega)
          have KB3 := Aside0.mk hbox
          have KX3 := Aside0.mk (blk_below KX2.out hb)
          have KY3 := Aside0.mk (blk_below KY2.out hb)
          have KA3 := Aside0.mk (blk_below KA2.out hb)
          have NAB := Aside0.mk (show b7 ≠ b8 by have := blk_lt KA2.out; omega)
          have NXB := Aside0.mk (show b4 ≠ b8 by have := blk_lt KX2.out; omega)
          have NYB := Aside0.mk (show b5 ≠ b8 by have := blk_lt KY2.out; omega)
          clear hgb hbox hb
          refine hK.out _ _ ⟨(blk_cell KX3.out 0).trans rfl, (blk_cell KX3.out 1).trans rfl, (blk_cell KX3.out 2).trans rfl, (blk_cell KY3.out 0).trans rfl, (blk_cell KY3.out 1).trans rfl, (blk_cell KY3.out 2).trans rfl⟩ (fun hHeld => ?_)
          clear hK K
          refine norm_ (a' := ?_) ?_ ?_
          rotate_left
          · show Act.put _ (some 8) _ = _
            simp only [Act.put, List.setIfInBounds_toArray, List.set_cons_zero, List.set_cons_succ, i64_w, i32_w]
            rfl
          refine one_ (i := 5) (N := some 14) #[true, true, true, true, true, true, true, true, false, false] rfl rfl (by kernel_rfl) (by decide) (fun K hK => ?_)
          refine goes_ Tryd.func60 (by kernel_rfl) rfl #[.map (some b), .agg #[.int .i64 y.f0, .int .i64 y.f1, .string y.f2]] (by rfl) rfl rfl (by simp only [List.map_toArray, List.map_cons, List.map_nil]; rfl) ?_
          with_reducible refine (top_calls b (n + 1) D1 C1 y _ HM3.out HC1.out HI1.out OY.out (by have := HN.out; omega)).mono ?_
          rintro e w4_ ⟨ry, C2, D2, rfl, hT, hok, hC, hm, hg⟩
          refine ⟨_, rfl, ?_⟩
          have HM4 := Aside0.mk hm
          have HG4 := Aside0.mk (World.grownBy.trans HG3.out hg)
          have HT2 := Aside0.mk hT
          have OR2 := Aside0.mk hok
          have HC2 := Aside0.mk hC
          have HI2 := Aside0.mk (top_inv hT HI1.out OY.out)
          have KX4 := Aside0.mk (blk_grown KX3.out hg NX.out)
          have KY4 := Aside0.mk (blk_grown KY3.out hg NY.out)
          have KA4 := Aside0.mk (blk_grown KA3.out hg NA.out)
          have KB4 := Aside0.mk (blk_grown KB3.out hg NB.out)
          clear hT hok hC hm hg
          refine hK.out _ _ ⟨(blk_cell KX4.out 0).trans rfl, (blk_cell KX4.out 1).trans rfl, (blk_cell KX4.out 2).trans rfl, (blk_cell KY4.out 0).trans rfl, (blk_cell KY4.out 1).trans rfl, (blk_cell KY4.out 2).trans rfl⟩ (fun hHeld => ?_)
          clear hK K
          refine norm_ (a' := ?_) ?_ ?_
          rotate_left
          · show Act.put _ (some 14) _ = _
            simp only [Act.put, List.setIfInBounds_toArray, List.set_cons_zero, List.set_cons_succ, i64_w, i32_w]
            rfl
          exact norm_ (by simp only [putAll, Act.put, List.setIfInBounds_toArray, List.set_cons_zero, List.set_cons_succ]) (hCont (rx, ry, b7, b8) _ ⟨C1, C2, D2, ⟨(blk_cell KX4.out 0).trans rfl, (blk_cell KX4.out 1).trans rfl, (blk_cell KX4.out 2).trans rfl, (blk_cell KY4.out 0).trans rfl, (blk_cell KY4.out 1).trans rfl, (blk_cell KY4.out 2).trans rfl⟩, HT1.out, HT2.out, OR1.out, OR2.out, HC2.out, HI2.out, HM4.out, HG4.out, KA4.out, KB4.out, GA.out, GB.out, NAB.out, KX4.out, KY4.out, ⟨NXA.out, NXB.out, NYA.out, NYB.out⟩⟩)
      · skip
        refine box_step ?hg (N := 8) ?hd (cs := #[.int .i64 0, .int .i64 0, .string (⟨#[]⟩ : ByteArray)]) (t := 23) ?hr ?_
        (case hd => rfl)
        (case hg => rfl)
        (case hr => first | (go_simp; done) | (go_simp; rfl))
        intro b8 hgb w2_ hbox hb
        have HM2 := Aside0.mk (mapT_below HM1.out hb)
        have HG2 := Aside0.mk (World.grownBy.trans HG1.out (grown_of_below hb (some b)))
        have GB := Aside0.mk (show w.heap.size ≤ b8 by have := HG1.out.size; omega)
        have NB := Aside0.mk (show some b8 ≠ some b by have := HLT.out; have := GB.out; simp; omega)
        have KB2 := Aside0.mk hbox
        have KX2 := Aside0.mk (blk_below KX1.out hb)
        have KY2 := Aside0.mk (blk_below KY1.out hb)
        have KA2 := Aside0.mk (blk_below KA1.out hb)
        have NAB := Aside0.mk (show b7 ≠ b8 by have := blk_lt KA1.out; omega)
        have NXB := Aside0.mk (show b4 ≠ b8 by have := blk_lt KX1.out; omega)
        have NYB := Aside0.mk (show b5 ≠ b8 by have := blk_lt KY1.out; omega)
        clear hgb hbox hb
        refine hK.out _ _ ⟨(blk_cell KX2.out 0).trans rfl, (blk_cell KX2.out 1).trans rfl, (blk_cell KX2.out 2).trans rfl, (blk_cell KY2.out 0).trans rfl, (blk_cell KY2.out 1).trans rfl, (blk_cell KY2.out 2).trans rfl⟩ (fun hHeld => ?_)
        clear hK K
        refine norm_ (a' := ?_) ?_ ?_
        rotate_left
        · show Act.put _ (some 8) _ = _
          simp only [Act.put, List.setIfInBounds_toArray, List.set_cons_zero, List.set_cons_succ, i64_w, i32_w]
          rfl
        refine one_ (i := 2) (N := some 11) #[true, true, true, true, true, false, true, true, false, false] rfl rfl (by kernel_rfl) (by decide) (fun K hK => ?_)
        refine goes_ Tryd.func60 (by kernel_rfl) rfl #[.map (some b), .agg #[.int .i64 x.f0, .int .i64 x.f1, .string x.f2]] (by rfl) rfl rfl (by simp only [List.map_toArray, List.map_cons, List.map_nil]; rfl) ?_
        with_reducible refine (top_calls b n D C x _ HM2.out HC.out HI.out OX.out (by have := HN.out; omega)).mono ?_
        rintro e w3_ ⟨rx, C1, D1, rfl, hT, hok, hC, hm, hg⟩
        refine ⟨_, rfl, ?_⟩
        have HM3 := Aside0.mk hm
        have HG3 := Aside0.mk (World.grownBy.trans HG2.out hg)
        have HT1 := Aside0.mk hT
        have OR1 := Aside0.mk hok
        have HC1 := Aside0.mk hC
        have HI1 := Aside0.mk (top_inv hT HI.out OX.out)
        have KX3 := Aside0.mk (blk_grown KX2.out hg NX.out)
        have KY3 := Aside0.mk (blk_grown KY2.out hg NY.out)
        have KA3 := Aside0.mk (blk_grown KA2.out hg NA.out)
        have KB3 := Aside0.mk (blk_grown KB2.out hg NB.out)
        clear hT hok hC hm hg
        refine hK.out _ _ ⟨(blk_cell KX3.out 0).trans rfl, (blk_cell KX3.out 1).trans rfl, (blk_cell KX3.out 2).trans rfl, (blk_cell KY3.out 0).trans rfl, (blk_cell KY3.out 1).trans rfl, (blk_cell KY3.out 2).trans rfl⟩ (fun hHeld => ?_)
        clear hK K
        refine norm_ (a' := ?_) ?_ ?_
        rotate_left
        · show Act.put _ (some 11) _ = _
          simp only [Act.put, List.setIfInBounds_toArray, List.set_cons_zero, List.set_cons_succ, i64_w, i32_w]
          rfl
        refine one_ (i := 5) (N := some 14) #[true, true, true, true, true, true, true, true, false, false] rfl rfl (by kernel_rfl) (by decide) (fun K hK => ?_)
        refine goes_ Tryd.func60 (by kernel_rfl) rfl #[.map (some b), .agg #[.int .i64 y.f0, .int .i64 y.f1, .string y.f2]] (by rfl) rfl rfl (by simp only [List.map_toArray, List.map_cons, List.map_nil]; rfl) ?_
        with_reducible refine (top_calls b (n + 1) D1 C1 y _ HM3.out HC1.out HI1.out OY.out (by have := HN.out; omega)).mono ?_
        rintro e w4_ ⟨ry, C2, D2, rfl, hT, hok, hC, hm, hg⟩
        refine ⟨_, rfl, ?_⟩
        have HM4 := Aside0.mk hm
        have HG4 := Aside0.mk (World.grownBy.trans HG3.out hg)
        have HT2 := Aside0.mk hT
        have OR2 := Aside0.mk hok
        have HC2 := Aside0.mk hC
        have HI2 := Aside0.mk (top_inv hT HI1.out OY.out)
        have KX4 := Aside0.mk (blk_grown KX3.out hg NX.out)
        have KY4 := Aside0.mk (blk_grown KY3.out hg NY.out)
        have KA4 := Aside0.mk (blk_grown KA3.out hg NA.out)
        have KB4 := Aside0.mk (blk_grown KB3.out hg NB.out)
        clear hT hok hC hm hg
        refine hK.out _ _ ⟨(blk_cell KX4.out 0).trans rfl, (blk_cell KX4.out 1).trans rfl, (blk_cell KX4.out 2).trans rfl, (blk_cell KY4.out 0).trans rfl, (blk_cell KY4.out 1).trans rfl, (blk_cell KY4.out 2).trans rfl⟩ (fun hHeld => ?_)
        clear hK K
        refine norm_ (a' := ?_) ?_ ?_
        rotate_left
        · show Act.put _ (some 14) _ = _
          simp only [Act.put, List.setIfInBounds_toArray, List.set_cons_zero, List.set_cons_succ, i64_w, i32_w]
          rfl
        exact norm_ (by simp only [putAll, Act.put, List.setIfInBounds_toArray, List.set_cons_zero, List.set_cons_succ]) (hCont (rx, ry, b7, b8) _ ⟨C1, C2, D2, ⟨(blk_cell KX4.out 0).trans rfl, (blk_cell KX4.out 1).trans rfl, (blk_cell KX4.out 2).trans rfl, (blk_cell KY4.out 0).trans rfl, (blk_cell KY4.out 1).trans rfl, (blk_cell KY4.out 2).trans rfl⟩, HT1.out, HT2.out, OR1.out, OR2.out, HC2.out, HI2.out, HM4.out, HG4.out, KA4.out, KB4.out, GA.out, GB.out, NAB.out, KX4.out, KY4.out, ⟨NXA.out, NXB.out, NYA.out, NYB.out⟩⟩)
    · skip
      refine box_step ?hg (N := 8) ?hd (cs := #[.int .i64 0, .int .i64 0, .string (⟨#[]⟩ : ByteArray)]) (t := 23) ?hr ?_
      (case hd => rfl)
      (case hg => rfl)
      (case hr => first | (go_simp; done) | (go_simp; rfl))
      intro b8 hgb w1_ hbox hb
      have HM1 := Aside0.mk (mapT_below HM0.out hb)
      have HG1 := Aside0.mk (World.grownBy.trans HG0.out (grown_of_below hb (some b)))
      have GB := Aside0.mk (show w.heap.size ≤ b8 by have := HG0.out.size; omega)
      have NB := Aside0.mk (show some b8 ≠ some b by have := HLT.out; have := GB.out; simp; omega)
      have KB1 := Aside0.mk hbox
      have KX1 := Aside0.mk (blk_below KX0.out hb)
      have KY1 := Aside0.mk (blk_below KY0.out hb)
      have NXB := Aside0.mk (show b4 ≠ b8 by have := blk_lt KX0.out; omega)
      have NYB := Aside0.mk (show b5 ≠ b8 by have := blk_lt KY0.out; omega)
      clear hgb hbox hb
      refine hK.out _ _ ⟨(blk_cell KX1.out 0).trans rfl, (blk_cell KX1.out 1).trans rfl, (blk_cell KX1.out 2).trans rfl, (blk_cell KY1.out 0).trans rfl, (blk_cell KY1.out 1).trans rfl, (blk_cell KY1.out 2).trans rfl⟩ (fun hHeld => ?_)
      clear hK K
      refine norm_ (a' := ?_) ?_ ?_
      rotate_left
      · show Act.put _ (some 8) _ = _
        simp only [Act.put, List.setIfInBounds_toArray, List.set_cons_zero, List.set_cons_succ, i64_w, i32_w]
        rfl
      refine two_ (i := 2) (j := 6) (Ni := some 11) (Nj := some 7) #[true, true, true, true, true, false, false, true, false, false] #[true, true, false, true, true, false, true, true, false, false] rfl rfl rfl rfl (by kernel_rfl) (by decide) (by decide) (fun K hK => ?_) (fun K hK => ?_)
      · skip
        refine goes_ Tryd.func60 (by kernel_rfl) rfl #[.map (some b), .agg #[.int .i64 x.f0, .int .i64 x.f1, .string x.f2]] (by rfl) rfl rfl (by simp only [List.map_toArray, List.map_cons, List.map_nil]; rfl) ?_
        with_reducible refine (top_calls b n D C x _ HM1.out HC.out HI.out OX.out (by have := HN.out; omega)).mono ?_
        rintro e w2_ ⟨rx, C1, D1, rfl, hT, hok, hC, hm, hg⟩
        refine ⟨_, rfl, ?_⟩
        have HM2 := Aside0.mk hm
        have HG2 := Aside0.mk (World.grownBy.trans HG1.out hg)
        have HT1 := Aside0.mk hT
        have OR1 := Aside0.mk hok
        have HC1 := Aside0.mk hC
        have HI1 := Aside0.mk (top_inv hT HI.out OX.out)
        have KX2 := Aside0.mk (blk_grown KX1.out hg NX.out)
        have KY2 := Aside0.mk (blk_grown KY1.out hg NY.out)
        have KB2 := Aside0.mk (blk_grown KB1.out hg NB.out)
        clear hT hok hC hm hg
        refine hK.out _ _ ⟨(blk_cell KX2.out 0).trans rfl, (blk_cell KX2.out 1).trans rfl, (blk_cell KX2.out 2).trans rfl, (blk_cell KY2.out 0).trans rfl, (blk_cell KY2.out 1).trans rfl, (blk_cell KY2.out 2).trans rfl⟩ (fun hHeld => ?_)
        clear hK K
        refine norm_ (a' := ?_) ?_ ?_
        rotate_left
        · show Act.put _ (some 11) _ = _
          simp only [Act.put, List.setIfInBounds_toArray, List.set_cons_zero, List.set_cons_succ, i64_w, i32_w]
          rfl
        refine two_ (i := 5) (j := 6) (Ni := some 14) (Nj := some 7) #[true, true, true, true, true, true, false, true, false, false] #[true, true, true, true, true, false, true, true, false, false] rfl rfl rfl rfl (by kernel_rfl) (by decide) (by decide) (fun K hK => ?_) (fun K hK => ?_)
        · skip
          refine goes_ Tryd.func60 (by kernel_rfl) rfl #[.map (some b), .agg #[.int .i64 y.f0, .int .i64 y.f1, .string y.f2]] (by rfl) rfl rfl (by simp only [List.map_toArray, List.map_cons, List.map_nil]; rfl) ?_
          with_reducible refine (top_calls b (n + 1) D1 C1 y _ HM2.out HC1.out HI1.out OY.out (by have := HN.out; omega)).mono ?_
          rintro e w3_ ⟨ry, C2, D2, rfl, hT, hok, hC, hm, hg⟩
          refine ⟨_, rfl, ?_⟩
          have HM3 := Aside0.mk hm
          have HG3 := Aside0.mk (World.grownBy.trans HG2.out hg)
          have HT2 := Aside0.mk hT
          have OR2 := Aside0.mk hok
          have HC2 := Aside0.mk hC
          have HI2 := Aside0.mk (top_inv hT HI1.out OY.out)
          have KX3 := Aside0.mk (blk_grown KX2.out hg NX.out)
          have KY3 := Aside0.mk (blk_grown KY2.out hg NY.out)
          have KB3 := Aside0.mk (blk_grown KB2.out hg NB.out)
          clear hT hok hC hm hg
          refine hK.out _ _ ⟨(blk_cell KX3.out 0).trans rfl, (blk_cell KX3.out 1).trans rfl, (blk_cell KX3.out 2).trans rfl, (blk_cell KY3.out 0).trans rfl, (blk_cell KY3.out 1).trans rfl, (blk_cell KY3.out 2).trans rfl⟩ (fun hHeld => ?_)
          clear hK K
          refine norm_ (a' := ?_) ?_ ?_
          rotate_left
          · show Act.put _ (some 14) _ = _
            simp only [Act.put, List.setIfInBounds_toArray, List.set_cons_zero, List.set_cons_succ, i64_w, i32_w]
            rfl
          refine one_ (i := 6) (N := some 7) #[true, true, true, true, true, true, true, true, false, false] rfl rfl (by kernel_rfl) (by decide) (fun K hK => ?_)
          refine box_step ?hg (N := 7) ?hd (cs := #[.int .i64 0, .int .i64 0, .string (⟨#[]⟩ : ByteArray)]) (t := 23) ?hr ?_
          (case hd => rfl)
          (case hg => rfl)
          (case hr => first | (go_simp; done) | (go_simp; rfl))
          intro b7 hgb w4_ hbox hb
          have HM4 := Aside0.mk (mapT_below HM3.out hb)
          have HG4 := Aside0.mk (World.grownBy.trans HG3.out (grown_of_below hb (some b)))
          have GA := Aside0.mk (show w.heap.size ≤ b7 by have := HG3.out.size; omega)
          have NA := Aside0.mk (show some b7 ≠ some b by have := HLT.out; have := GA.out; simp; omega)
          have KA4 := Aside0.mk hbox
          have KX4 := Aside0.mk (blk_below KX3.out hb)
          have KY4 := Aside0.mk (blk_below KY3.out hb)
          have KB4 := Aside0.mk (blk_below KB3.out hb)
          have NAB := Aside0.mk (show b7 ≠ b8 by have := blk_lt KB3.out; omega)
          have NXA := Aside0.mk (show b4 ≠ b7 by have := blk_lt KX3.out; omega)
          have NYA := Aside0.mk (show b5 ≠ b7 by have := blk_lt KY3.out; omega)
          clear hgb hbox hb
          refine hK.out _ _ ⟨(blk_cell KX4.out 0).trans rfl, (blk_cell KX4.out 1).trans rfl, (blk_cell KX4.out 2).trans rfl, (blk_cell KY4.out 0).trans rfl, (blk_cell KY4.out 1).trans rfl, (blk_cell KY4.out 2).trans rfl⟩ (fun hHeld => ?_)
          clear hK K
          refine norm_ (a' := ?_) ?_ ?_
          rotate_left
          · show Act.put _ (some 7) _ = _
            simp only [Act.put, List.setIfInBounds_toArray, List.set_cons_zero, List.set_cons_succ, i64_w, i32_w]
            rfl
          exact norm_ (by simp only [putAll, Act.put, List.setIfInBounds_toArray, List.set_cons_zero, List.set_cons_succ]) (hCont (rx, ry, b7, b8) _ ⟨C1, C2, D2, ⟨(blk_cell KX4.out 0).trans rfl, (blk_cell KX4.out 1).trans rfl, (blk_cell KX4.out 2).trans rfl, (blk_cell KY4.out 0).trans rfl, (blk_cell KY4.out 1).trans rfl, (blk_cell KY4.out 2).trans rfl⟩, HT1.out, HT2.out, OR1.out, OR2.out, HC2.out, HI2.out, HM4.out, HG4.out, KA4.out, KB4.out, GA.out, GB.out, NAB.out, KX4.out, KY4.out, ⟨NXA.out, NXB.out, NYA.out, NYB.out⟩⟩)
        · skip
          refine box_step ?hg (N := 7) ?hd (cs := #[.int .i64 0, .int .i64 0, .string (⟨#[]⟩ : ByteArray)]) (t := 23) ?hr ?_
          (case hd => rfl)
          (case hg => rfl)
          (case hr => first | (go_simp; done) | (go_simp; rfl))
          intro b7 hgb w3_ hbox hb
          have HM3 := Aside0.mk (mapT_below HM2.out hb)
          have HG3 := Aside0.mk (World.grownBy.trans HG2.out (grown_of_below hb (some b)))
          have GA := Aside0.mk (show w.heap.size ≤ b7 by have := HG2.out.size; omega)
          have NA := Aside0.mk (show some b7 ≠ some b by have := HLT.out; have := GA.out; simp; omega)
          have KA3 := Aside0.mk hbox
          have KX3 := Aside0.mk (blk_below KX2.out hb)
          have KY3 := Aside0.mk (blk_below KY2.out hb)
          have KB3 := Aside0.mk (blk_below KB2.out hb)
          have NAB := Aside0.mk (show b7 ≠ b8 by have := blk_lt KB2.out; omega)
          have NXA := Aside0.mk (show b4 ≠ b7 by have := blk_lt KX2.out; omega)
          have NYA := Aside0.mk (show b5 ≠ b7 by have := blk_lt KY2.out; omega)
          clear hgb hbox hb
          refine hK.out _ _ ⟨(blk_cell KX3.out 0).trans rfl, (blk_cell KX3.out 1).trans rfl, (blk_cell KX3.out 2).trans rfl, (blk_cell KY3.out 0).trans rfl, (blk_cell KY3.out 1).trans rfl, (blk_cell KY3.out 2).trans rfl⟩ (fun hHeld => ?_)
          clear hK K
          refine norm_ (a' := ?_) ?_ ?_
          rotate_left
          · show Act.put _ (some 7) _ = _
            simp only [Act.put, List.setIfInBounds_toArray, List.set_cons_zero, List.set_cons_succ, i64_w, i32_w]
            rfl
          refine one_ (i := 5) (N := some 14) #[true, true, true, true, true, true, true, true, false, false] rfl rfl (by kernel_rfl) (by decide) (fun K hK => ?_)
          refine goes_ Tryd.func60 (by kernel_rfl) rfl #[.map (some b), .agg #[.int .i64 y.f0, .int .i64 y.f1, .string y.f2]] (by rfl) rfl rfl (by simp only [List.map_toArray, List.map_cons, List.map_nil]; rfl) ?_
          with_reducible refine (top_calls b (n + 1) D1 C1 y _ HM3.out HC1.out HI1.out OY.out (by have := HN.out; omega)).mono ?_
          rintro e w4_ ⟨ry, C2, D2, rfl, hT, hok, hC, hm, hg⟩
          refine ⟨_, rfl, ?_⟩
          have HM4 := Aside0.mk hm
          have HG4 := Aside0.mk (World.grownBy.trans HG3.out hg)
          have HT2 := Aside0.mk hT
          have OR2 := Aside0.mk hok
          have HC2 := Aside0.mk hC
          have HI2 := Aside0.mk (top_inv hT HI1.out OY.out)
          have KX4 := Aside0.mk (blk_grown KX3.out hg NX.out)
          have KY4 := Aside0.mk (blk_grown KY3.out hg NY.out)
          have KA4 := Aside0.mk (blk_grown KA3.out hg NA.out)
          have KB4 := Aside0.mk (blk_grown KB3.out hg NB.out)
          clear hT hok hC hm hg
          refine hK.out _ _ ⟨(blk_cell KX4.out 0).trans rfl, (blk_cell KX4.out 1).trans rfl, (blk_cell KX4.out 2).trans rfl, (blk_cell KY4.out 0).trans rfl, (blk_cell KY4.out 1).trans rfl, (blk_cell KY4.out 2).trans rfl⟩ (fun hHeld => ?_)
          clear hK K
          refine norm_ (a' := ?_) ?_ ?_
          rotate_left
          · show Act.put _ (some 14) _ = _
            simp only [Act.put, List.setIfInBounds_toArray, List.set_cons_zero, List.set_cons_succ, i64_w, i32_w]
            rfl
          exact norm_ (by simp only [putAll, Act.put, List.setIfInBounds_toArray, List.set_cons_zero, List.set_cons_succ]) (hCont (rx, ry, b7, b8) _ ⟨C1, C2, D2, ⟨(blk_cell KX4.out 0).trans rfl, (blk_cell KX4.out 1).trans rfl, (blk_cell KX4.out 2).trans rfl, (blk_cell KY4.out 0).trans rfl, (blk_cell KY4.out 1).trans rfl, (blk_cell KY4.out 2).trans rfl⟩, HT1.out, HT2.out, OR1.out, OR2.out, HC2.out, HI2.out, HM4.out, HG4.out, KA4.out, KB4.out, GA.out, GB.out, NAB.out, KX4.out, KY4.out, ⟨NXA.out, NXB.out, NYA.out, NYB.out⟩⟩)
      · skip
        refine box_step ?hg (N := 7) ?hd (cs := #[.int .i64 0, .int .i64 0, .string (⟨#[]⟩ : ByteArray)]) (t := 23) ?hr ?_
        (case hd => rfl)
        (case hg => rfl)
        (case hr => first | (go_simp; done) | (go_simp; rfl))
        intro b7 hgb w2_ hbox hb
        have HM2 := Aside0.mk (mapT_below HM1.out hb)
        have HG2 := Aside0.mk (World.grownBy.trans HG1.out (grown_of_below hb (some b)))
        have GA := Aside0.mk (show w.heap.size ≤ b7 by have := HG1.out.size; omega)
        have NA := Aside0.mk (show some b7 ≠ some b by have := HLT.out; have := GA.out; simp; omega)
        have KA2 := Aside0.mk hbox
        have KX2 := Aside0.mk (blk_below KX1.out hb)
        have KY2 := Aside0.mk (blk_below KY1.out hb)
        have KB2 := Aside0.mk (blk_below KB1.out hb)
        have NAB := Aside0.mk (show b7 ≠ b8 by have := blk_lt KB1.out; omega)
        have NXA := Aside0.mk (show b4 ≠ b7 by have := blk_lt KX1.out; omega)
        have NYA := Aside0.mk (show b5 ≠ b7 by have := blk_lt KY1.out; omega)
        clear hgb hbox hb
        refine hK.out _ _ ⟨(blk_cell KX2.out 0).trans rfl, (blk_cell KX2.out 1).trans rfl, (blk_cell KX2.out 2).trans rfl, (blk_cell KY2.out 0).trans rfl, (blk_cell KY2.out 1).trans rfl, (blk_cell KY2.out 2).trans rfl⟩ (fun hHeld => ?_)
        clear hK K
        refine norm_ (a' := ?_) ?_ ?_
        rotate_left
        · show Act.put _ (some 7) _ = _
          simp only [Act.put, List.setIfInBounds_toArray, List.set_cons_zero, List.set_cons_succ, i64_w, i32_w]
          rfl
        refine one_ (i := 2) (N := some 11) #[true, true, true, true, true, false, true, true, false, false] rfl rfl (by kernel_rfl) (by decide) (fun K hK => ?_)
        refine goes_ Tryd.func60 (by kernel_rfl) rfl #[.map (some b), .agg #[.int .i64 x.f0, .int .i64 x.f1, .string x.f2]] (by rfl) rfl rfl (by simp only [List.map_toArray, List.map_cons, List.map_nil]; rfl) ?_
        with_reducible refine (top_calls b n D C x _ HM2.out HC.out HI.out OX.out (by have := HN.out; omega)).mono ?_
        rintro e w3_ ⟨rx, C1, D1, rfl, hT, hok, hC, hm, hg⟩
        refine ⟨_, rfl, ?_⟩
        have HM3 := Aside0.mk hm
        have HG3 := Aside0.mk (World.grownBy.trans HG2.out hg)
        have HT1 := Aside0.mk hT
        have OR1 := Aside0.mk hok
        have HC1 := Aside0.mk hC
        have HI1 := Aside0.mk (top_inv hT HI.out OX.out)
        have KX3 := Aside0.mk (blk_grown KX2.out hg NX.out)
        have KY3 := Aside0.mk (blk_grown KY2.out hg NY.out)
        have KA3 := Aside0.mk (blk_grown KA2.out hg NA.out)
        have KB3 := Aside0.mk (blk_grown KB2.out hg NB.out)
        clear hT hok hC hm hg
        refine hK.out _ _ ⟨(blk_cell KX3.out 0).trans rfl, (blk_cell KX3.out 1).trans rfl, (blk_cell KX3.out 2).trans rfl, (blk_cell KY3.out 0).trans rfl, (blk_cell KY3.out 1).trans rfl, (blk_cell KY3.out 2).trans rfl⟩ (fun hHeld => ?_)
        clear hK K
        refine norm_ (a' := ?_) ?_ ?_
        rotate_left
        · show Act.put _ (some 11) _ = _
          simp only [Act.put, List.setIfInBounds_toArray, List.set_cons_zero, List.set_cons_succ, i64_w, i32_w]
          rfl
        refine one_ (i := 5) (N := some 14) #[true, true, true, true, true, true, true, true, false, false] rfl rfl (by kernel_rfl) (by decide) (fun K hK => ?_)
        refine goes_ Tryd.func60 (by kernel_rfl) rfl #[.map (some b), .agg #[.int .i64 y.f0, .int .i64 y.f1, .string y.f2]] (by rfl) rfl rfl (by simp only [List.map_toArray, List.map_cons, List.map_nil]; rfl) ?_
        with_reducible refine (top_calls b (n + 1) D1 C1 y _ HM3.out HC1.out HI1.out OY.out (by have := HN.out; omega)).mono ?_
        rintro e w4_ ⟨ry, C2, D2, rfl, hT, hok, hC, hm, hg⟩
        refine ⟨_, rfl, ?_⟩
        have HM4 := Aside0.mk hm
        have HG4 := Aside0.mk (World.grownBy.trans HG3.out hg)
        have HT2 := Aside0.mk hT
        have OR2 := Aside0.mk hok
        have HC2 := Aside0.mk hC
        have HI2 := Aside0.mk (top_inv hT HI1.out OY.out)
        have KX4 := Aside0.mk (blk_grown KX3.out hg NX.out)
        have KY4 := Aside0.mk (blk_grown KY3.out hg NY.out)
        have KA4 := Aside0.mk (blk_grown KA3.out hg NA.out)
        have KB4 := Aside0.mk (blk_grown KB3.out hg NB.out)
        clear hT hok hC hm hg
        refine hK.out _ _ ⟨(blk_cell KX4.out 0).trans rfl, (blk_cell KX4.out 1).trans rfl, (blk_cell KX4.out 2).trans rfl, (blk_cell KY4.out 0).trans rfl, (blk_cell KY4.out 1).trans rfl, (blk_cell KY4.out 2).trans rfl⟩ (fun hHeld => ?_)
        clear hK K
        refine norm_ (a' := ?_) ?_ ?_
        rotate_left
        · show Act.put _ (some 14) _ = _
          simp only [Act.put, List.setIfInBounds_toArray, List.set_cons_zero, List.set_cons_succ, i64_w, i32_w]
          rfl
        exact norm_ (by simp only [putAll, Act.put, List.setIfInBounds_toArray, List.set_cons_zero, List.set_cons_succ]) (hCont (rx, ry, b7, b8) _ ⟨C1, C2, D2, ⟨(blk_cell KX4.out 0).trans rfl, (blk_cell KX4.out 1).trans rfl, (blk_cell KX4.out 2).trans rfl, (blk_cell KY4.out 0).trans rfl, (blk_cell KY4.out 1).trans rfl, (blk_cell KY4.out 2).trans rfl⟩, HT1.out, HT2.out, OR1.out, OR2.out, HC2.out, HI2.out, HM4.out, HG4.out, KA4.out, KB4.out, GA.out, GB.out, NAB.out, KX4.out, KY4.out, ⟨NXA.out, NXB.out, NYA.out, NYB.out⟩⟩)
  rintro ⟨rx, ry, b7, b8⟩ w5 ⟨C1, C2, D2, hHeld, hT1, hT2, ho1, ho2, hC2, hI2, hm, hg, ka, kb, ga, gb, nab, kx, ky, nxa, nxb, nya, nyb⟩
  have HT1 : Aside0 (Top C x rx C1) := ⟨hT1⟩
  have HT2 : Aside0 (Top C1 y ry C2) := ⟨hT2⟩
  have OR1 : Aside0 (okT rx = true) := ⟨ho1⟩
  have OR2 : Aside0 (okT ry = true) := ⟨ho2⟩
  have HC2 : Aside0 (ClsD D2 C2) := ⟨hC2⟩
  have HI2 : Aside0 (InvC C2) := ⟨hI2⟩
  have HM5 : Aside0 (w5.ownsMap Tryd.prog 23 RT b (n + 2) D2) := ⟨hm⟩
  have HG5 : Aside0 (w.grownBy w5 (some b)) := ⟨hg⟩
  have KA5 : Aside0 (w5.heap[b7]? = some (.cells #[.int .i64 0, .int .i64 0, .string (⟨#[]⟩ : ByteArray)] 23 (0, 0))) := ⟨ka⟩
  have KB5 : Aside0 (w5.heap[b8]? = some (.cells #[.int .i64 0, .int .i64 0, .string (⟨#[]⟩ : ByteArray)] 23 (0, 0))) := ⟨kb⟩
  have GA : Aside0 (w.heap.size ≤ b7) := ⟨ga⟩
  have GB : Aside0 (w.heap.size ≤ b8) := ⟨gb⟩
  have NAB : Aside0 (b7 ≠ b8) := ⟨nab⟩
  have KX5 : Aside0 (w5.heap[b4]? = some (.cells #[.int .i64 x.f0, .int .i64 x.f1, .string x.f2] 23 (0, 0))) := ⟨kx⟩
  have KY5 : Aside0 (w5.heap[b5]? = some (.cells #[.int .i64 y.f0, .int .i64 y.f1, .string y.f2] 23 (0, 0))) := ⟨ky⟩
  have NXA : Aside0 (b4 ≠ b7) := ⟨nxa⟩
  have NXB : Aside0 (b4 ≠ b8) := ⟨nxb⟩
  have NYA : Aside0 (b5 ≠ b7) := ⟨nya⟩
  have NYB : Aside0 (b5 ≠ b8) := ⟨nyb⟩
  clear hT1 hT2 ho1 ho2 hC2 hI2 hm hg ka kb ga gb nab kx ky nxa nxb nya nyb
  refine norm_ (a' := ?_) ?_ ?_
  rotate_left
  · simp only [putAll, Act.put, List.setIfInBounds_toArray, List.set_cons_zero, List.set_cons_succ]
    rfl
  refine one_ (i := 8) (N := none) #[true, true, true, true, true, true, true, true, true, false] rfl rfl (by kernel_rfl) (by decide) (fun K hK => ?_)
  have z0 := (blk_cell KA5.out 0).trans rfl
  have z1 := (blk_cell KA5.out 1).trans rfl
  have z2 := (blk_cell KA5.out 2).trans rfl
  have f0 := blk_frozen KA5.out 0
  have f1 := blk_frozen KA5.out 1
  have f2 := blk_frozen KA5.out 2
  refine skip_ (w1 := ?_) (by rfl) rfl ?_ ?_
  rotate_left
  · go_simp
    rfl
  have KA6 : Aside0 ((((w5.setCell ⟨b7, 0, none⟩ (.int .i64 rx.f0)).setCell ⟨b7, 1, none⟩ (.int .i64 rx.f1)).setCell ⟨b7, 2, none⟩ (.string rx.f2)).heap[b7]? = some (.cells #[.int .i64 rx.f0, .int .i64 rx.f1, .string rx.f2] 23 (0, 0))) := ⟨blk_put (cs := #[.int .i64 rx.f0, .int .i64 rx.f1, .string (⟨#[]⟩ : ByteArray)]) (blk_put (cs := #[.int .i64 rx.f0, .int .i64 0, .string (⟨#[]⟩ : ByteArray)]) (blk_put (cs := #[.int .i64 0, .int .i64 0, .string (⟨#[]⟩ : ByteArray)]) KA5.out 0 _ rfl) 1 _ rfl) 2 _ rfl⟩
  have KB6 : Aside0 ((((w5.setCell ⟨b7, 0, none⟩ (.int .i64 rx.f0)).setCell ⟨b7, 1, none⟩ (.int .i64 rx.f1)).setCell ⟨b7, 2, none⟩ (.string rx.f2)).heap[b8]? = some (.cells #[.int .i64 0, .int .i64 0, .string (⟨#[]⟩ : ByteArray)] 23 (0, 0))) := ⟨(Below.heap_setCell _ _ _ b8 (fun e => NAB.out e.symm)).trans ((Below.heap_setCell _ _ _ b8 (fun e => NAB.out e.symm)).trans ((Below.heap_setCell _ _ _ b8 (fun e => NAB.out e.symm)).trans KB5.out))⟩
  have KX6 : Aside0 ((((w5.setCell ⟨b7, 0, none⟩ (.int .i64 rx.f0)).setCell ⟨b7, 1, none⟩ (.int .i64 rx.f1)).setCell ⟨b7, 2, none⟩ (.string rx.f2)).heap[b4]? = some (.cells #[.int .i64 x.f0, .int .i64 x.f1, .string x.f2] 23 (0, 0))) := ⟨(Below.heap_setCell _ _ _ b4 NXA.out).trans ((Below.heap_setCell _ _ _ b4 NXA.out).trans ((Below.heap_setCell _ _ _ b4 NXA.out).trans KX5.out))⟩
  have KY6 : Aside0 ((((w5.setCell ⟨b7, 0, none⟩ (.int .i64 rx.f0)).setCell ⟨b7, 1, none⟩ (.int .i64 rx.f1)).setCell ⟨b7, 2, none⟩ (.string rx.f2)).heap[b5]? = some (.cells #[.int .i64 y.f0, .int .i64 y.f1, .string y.f2] 23 (0, 0))) := ⟨(Below.heap_setCell _ _ _ b5 NYA.out).trans ((Below.heap_setCell _ _ _ b5 NYA.out).trans ((Below.heap_setCell _ _ _ b5 NYA.out).trans KY5.out))⟩
  have HM6 : Aside0 ((((w5.setCell ⟨b7, 0, none⟩ (.int .i64 rx.f0)).setCell ⟨b7, 1, none⟩ (.int .i64 rx.f1)).setCell ⟨b7, 2, none⟩ (.string rx.f2)).ownsMap Tryd.prog 23 RT b (n + 2) D2) := ⟨mapT_set (mapT_set (mapT_set HM5.out (show b < b7 by have := HLT.out; have := GA.out; omega) _) (show b < b7 by have := HLT.out; have := GA.out; omega) _) (show b < b7 by have := HLT.out; have := GA.out; omega) _⟩
  have HG6 : Aside0 (w.grownBy (((w5.setCell ⟨b7, 0, none⟩ (.int .i64 rx.f0)).setCell ⟨b7, 1, none⟩ (.int .i64 rx.f1)).setCell ⟨b7, 2, none⟩ (.string rx.f2)) (some b)) := ⟨grown_set (grown_set (grown_set HG5.out GA.out _) GA.out _) GA.out _⟩
  clear z0 z1 z2 f0 f1 f2
  refine hK.out _ _ ⟨(blk_cell KX6.out 0).trans rfl, (blk_cell KX6.out 1).trans rfl, (blk_cell KX6.out 2).trans rfl, (blk_cell KY6.out 0).trans rfl, (blk_cell KY6.out 1).trans rfl, (blk_cell KY6.out 2).trans rfl⟩ (fun hHeld => ?_)
  clear hK K
  refine one_ (i := 9) (N := none) #[true, true, true, true, true, true, true, true, true, true] rfl rfl (by kernel_rfl) (by decide) (fun K hK => ?_)
  have z0 := (blk_cell KB6.out 0).trans rfl
  have z1 := (blk_cell KB6.out 1).trans rfl
  have z2 := (blk_cell KB6.out 2).trans rfl
  have f0 := blk_frozen KB6.out 0
  have f1 := blk_frozen KB6.out 1
  have f2 := blk_frozen KB6.out 2
  refine skip_ (w1 := ?_) (by rfl) rfl ?_ ?_
  rotate_left
  · go_simp
    rfl
  have KB7 : Aside0 (((((((w5.setCell ⟨b7, 0, none⟩ (.int .i64 rx.f0)).setCell ⟨b7, 1, none⟩ (.int .i64 rx.f1)).setCell ⟨b7, 2, none⟩ (.string rx.f2)).setCell ⟨b8, 0, none⟩ (.int .i64 ry.f0)).setCell ⟨b8, 1, none⟩ (.int .i64 ry.f1)).setCell ⟨b8, 2, none⟩ (.string ry.f2)).heap[b8]? = some (.cells #[.int .i64 ry.f0, .int .i64 ry.f1, .string ry.f2] 23 (0, 0))) := ⟨blk_put (cs := #[.int .i64 ry.f0, .int .i64 ry.f1, .string (⟨#[]⟩ : ByteArray)]) (blk_put (cs := #[.int .i64 ry.f0, .int .i64 0, .string (⟨#[]⟩ : ByteArray)]) (blk_put (cs := #[.int .i64 0, .int .i64 0, .string (⟨#[]⟩ : ByteArray)]) KB6.out 0 _ rfl) 1 _ rfl) 2 _ rfl⟩
  have KA7 : Aside0 (((((((w5.setCell ⟨b7, 0, none⟩ (.int .i64 rx.f0)).setCell ⟨b7, 1, none⟩ (.int .i64 rx.f1)).setCell ⟨b7, 2, none⟩ (.string rx.f2)).setCell ⟨b8, 0, none⟩ (.int .i64 ry.f0)).setCell ⟨b8, 1, none⟩ (.int .i64 ry.f1)).setCell ⟨b8, 2, none⟩ (.string ry.f2)).heap[b7]? = some (.cells #[.int .i64 rx.f0, .int .i64 rx.f1, .string rx.f2] 23 (0, 0))) := ⟨(Below.heap_setCell _ _ _ b7 NAB.out).trans ((Below.heap_setCell _ _ _ b7 NAB.out).trans ((Below.heap_setCell _ _ _ b7 NAB.out).trans KA6.out))⟩
  have KX7 : Aside0 (((((((w5.setCell ⟨b7, 0, none⟩ (.int .i64 rx.f0)).setCell ⟨b7, 1, none⟩ (.int .i64 rx.f1)).setCell ⟨b7, 2, none⟩ (.string rx.f2)).setCell ⟨b8, 0, none⟩ (.int .i64 ry.f0)).setCell ⟨b8, 1, none⟩ (.int .i64 ry.f1)).setCell ⟨b8, 2, none⟩ (.string ry.f2)).heap[b4]? = some (.cells #[.int .i64 x.f0, .int .i64 x.f1, .string x.f2] 23 (0, 0))) := ⟨(Below.heap_setCell _ _ _ b4 NXB.out).trans ((Below.heap_setCell _ _ _ b4 NXB.out).trans ((Below.heap_setCell _ _ _ b4 NXB.out).trans KX6.out))⟩
  have KY7 : Aside0 (((((((w5.setCell ⟨b7, 0, none⟩ (.int .i64 rx.f0)).setCell ⟨b7, 1, none⟩ (.int .i64 rx.f1)).setCell ⟨b7, 2, none⟩ (.string rx.f2)).setCell ⟨b8, 0, none⟩ (.int .i64 ry.f0)).setCell ⟨b8, 1, none⟩ (.int .i64 ry.f1)).setCell ⟨b8, 2, none⟩ (.string ry.f2)).heap[b5]? = some (.cells #[.int .i64 y.f0, .int .i64 y.f1, .string y.f2] 23 (0, 0))) := ⟨(Below.heap_setCell _ _ _ b5 NYB.out).trans ((Below.heap_setCell _ _ _ b5 NYB.out).trans ((Below.heap_setCell _ _ _ b5 NYB.out).trans KY6.out))⟩
  have HM7 : Aside0 (((((((w5.setCell ⟨b7, 0, none⟩ (.int .i64 rx.f0)).setCell ⟨b7, 1, none⟩ (.int .i64 rx.f1)).setCell ⟨b7, 2, none⟩ (.string rx.f2)).setCell ⟨b8, 0, none⟩ (.int .i64 ry.f0)).setCell ⟨b8, 1, none⟩ (.int .i64 ry.f1)).setCell ⟨b8, 2, none⟩ (.string ry.f2)).ownsMap Tryd.prog 23 RT b (n + 2) D2) := ⟨mapT_set (mapT_set (mapT_set HM6.out (show b < b8 by have := HLT.out; have := GB.out; omega) _) (show b < b8 by have := HLT.out; have := GB.out; omega) _) (show b < b8 by have := HLT.out; have := GB.out; omega) _⟩
  have HG7 : Aside0 (w.grownBy ((((((w5.setCell ⟨b7, 0, none⟩ (.int .i64 rx.f0)).setCell ⟨b7, 1, none⟩ (.int .i64 rx.f1)).setCell ⟨b7, 2, none⟩ (.string rx.f2)).setCell ⟨b8, 0, none⟩ (.int .i64 ry.f0)).setCell ⟨b8, 1, none⟩ (.int .i64 ry.f1)).setCell ⟨b8, 2, none⟩ (.string ry.f2)) (some b)) := ⟨grown_set (grown_set (grown_set HG6.out GB.out _) GB.out _) GB.out _⟩
  clear z0 z1 z2 f0 f1 f2
  refine hK.out _ _ ⟨(blk_cell KX7.out 0).trans rfl, (blk_cell KX7.out 1).trans rfl, (blk_cell KX7.out 2).trans rfl, (blk_cell KY7.out 0).trans rfl, (blk_cell KY7.out 1).trans rfl, (blk_cell KY7.out 2).trans rfl⟩ (fun hHeld => ?_)
  clear hK K
  refine done_ (by kernel_rfl) ?_
  generalize ((((((w5.setCell ⟨b7, 0, none⟩ (.int .i64 rx.f0)).setCell ⟨b7, 1, none⟩ (.int .i64 rx.f1)).setCell ⟨b7, 2, none⟩ (.string rx.f2)).setCell ⟨b8, 0, none⟩ (.int .i64 ry.f0)).setCell ⟨b8, 1, none⟩ (.int .i64 ry.f1)).setCell ⟨b8, 2, none⟩ (.string ry.f2)) = w7 at KA7 KB7 HM7 HG7 ⊢
  have I0 : Aside0 (LInv w w7 b (n + 2) D2 b7 b8 rx ry) := ⟨⟨HM7.out, HG7.out, KA7.out, KB7.out⟩⟩
  have HLI := Aside0.mk (link_inv (x := rx) (y := ry) HI2.out OR1.out OR2.out)
  clear HM7 HG7 KA7 KB7 KX7 KY7
  have pa0_0 := (blk_cell I0.out.ka 0).trans rfl
  have pa0_1 := (blk_cell I0.out.ka 1).trans rfl
  have pa0_2 := (blk_cell I0.out.ka 2).trans rfl
  have pb0_0 := (blk_cell I0.out.kb 0).trans rfl
  have pb0_1 := (blk_cell I0.out.kb 1).trans rfl
  have pb0_2 := (blk_cell I0.out.kb 2).trans rfl
  by_cases he : eqT rx ry = true
  · have hq : (rx.f0 == ry.f0 && (rx.f1 == ry.f1 && (rx.f2.toList == ry.f2.toList))) = true := he
    have HLR := Aside0.mk (show linkR rx ry C2 = (true, C2) by unfold linkR; rw [if_pos he])
    go_wp2_with (first
      | go_in)
    go_ret
    exact ⟨rx, ry, C1, C2, D2, (by rw [HLR.out]; rfl), HT1.out, HT2.out, by rw [HLR.out]; exact HC2.out, HLI.out, I0.out.m.mono (by omega), I0.out.g⟩
  · have hq : (rx.f0 == ry.f0 && (rx.f1 == ry.f1 && (rx.f2.toList == ry.f2.toList))) = false := Bool.eq_false_iff.2 he
    cases hx : isVar rx with
    | false =>
      have VX := Aside0.mk ((var_f rx).trans (congrArg some hx))
      cases hy : isVar ry with
      | false =>
        have VY := Aside0.mk ((var_f ry).trans (congrArg some hy))
        have HLR := Aside0.mk (show linkR rx ry C2 = (false, C2) by unfold linkR; rw [if_neg he, hx, hy]; rfl)
        go_wp2_with (first
          | (go_at_call 27; (with_reducible refine (term_Variable.calls ry.f0 ry.f1 ry.f2 false _ VY.out).mono ?_); rintro e w2_ ⟨rfl, hb⟩; have I2 := Aside0.mk (I1.out.up hb); clear hb; have pa2_0 := (blk_cell I2.out.ka 0).trans rfl; have pa2_1 := (blk_cell I2.out.ka 1).trans rfl; have pa2_2 := (blk_cell I2.out.ka 2).trans rfl; have pb2_0 := (blk_cell I2.out.kb 0).trans rfl; have pb2_1 := (blk_cell I2.out.kb 1).trans rfl; have pb2_2 := (blk_cell I2.out.kb 2).trans rfl)
          | (go_at_call 27; (with_reducible refine (term_Variable.calls rx.f0 rx.f1 rx.f2 false _ VX.out).mono ?_); rintro e w1_ ⟨rfl, hb⟩; have I1 := Aside0.mk (I0.out.up hb); clear hb; have pa1_0 := (blk_cell I1.out.ka 0).trans rfl; have pa1_1 := (blk_cell I1.out.ka 1).trans rfl; have pa1_2 := (blk_cell I1.out.ka 2).trans rfl; have pb1_0 := (blk_cell I1.out.kb 0).trans rfl; have pb1_1 := (blk_cell I1.out.kb 1).trans rfl; have pb1_2 := (blk_cell I1.out.kb 2).trans rfl)
          | go_in)
        go_ret
        exact ⟨rx, ry, C1, C2, D2, (by rw [HLR.out]; rfl), HT1.out, HT2.out, by rw [HLR.out]; exact HC2.out, HLI.out, I2.out.m.mono (by omega), I2.out.g⟩
      | true =>
        have VY := Aside0.mk ((var_f ry).trans (congrArg some hy))
        have HLR := Aside0.mk (show linkR rx ry C2 = (true, C2.set ry rx) by unfold linkR; rw [if_neg he, hx, hy]; rfl)
        go_wp2_with (first
          | (go_at_call 27; (with_reducible refine (term_Variable.calls rx.f0 rx.f1 rx.f2 false _ VX.out).mono ?_); rintro e w3_ ⟨rfl, hb⟩; have I3 := Aside0.mk (I2.out.up hb); clear hb; have pa3_0 := (blk_cell I3.out.ka 0).trans rfl; have pa3_1 := (blk_cell I3.out.ka 1).trans rfl; have pa3_2 := (blk_cell I3.out.ka 2).trans rfl; have pb3_0 := (blk_cell I3.out.kb 0).trans rfl; have pb3_1 := (blk_cell I3.out.kb 1).trans rfl; have pb3_2 := (blk_cell I3.out.kb 2).trans rfl)
          | (go_at_call 27; (with_reducible refine (term_Variable.calls ry.f0 ry.f1 ry.f2 true _ VY.out).mono ?_); rintro e w2_ ⟨rfl, hb⟩; have I2 := Aside0.mk (I1.out.up hb); clear hb; have pa2_0 := (blk_cell I2.out.ka 0).trans rfl; have pa2_1 := (blk_cell I2.out.ka 1).trans rfl; have pa2_2 := (blk_cell I2.out.ka 2).trans rfl; have pb2_0 := (blk_cell I2.out.kb 0).trans rfl; have pb2_1 := (blk_cell I2.out.kb 1).trans rfl; have pb2_2 := (blk_cell I2.out.kb 2).trans rfl)
          | (go_at_call 27; (with_reducible refine (term_Variable.calls rx.f0 rx.f1 rx.f2 false _ VX.out).mono ?_); rintro e w1_ ⟨rfl, hb⟩; have I1 := Aside0.mk (I0.out.up hb); clear hb; have pa1_0 := (blk_cell I1.out.ka 0).trans rfl; have pa1_1 := (blk_cell I1.out.ka 1).trans rfl; have pa1_2 := (blk_cell I1.out.ka 2).trans rfl; have pb1_0 := (blk_cell I1.out.kb 0).trans rfl; have pb1_1 := (blk_cell I1.out.kb 1).trans rfl; have pb1_2 := (blk_cell I1.out.kb 2).trans rfl)
          | (at_mapUpdate; refine updC_event _ rfl _ _ _ rfl b (n + 2) D2 C2 ry rx rfl I3.out.m HC2.out (by have := HN.out; omega) rfl rfl OR2.out ?_; intro wz hmz hgz; have HMZ := Aside0.mk hmz; have HGZ := Aside0.mk (World.grownBy.trans I3.out.g hgz); clear hmz hgz)
          | go_in)
        go_ret
        exact ⟨rx, ry, C1, C2, D2.put (keyT ry) (.held rx), (by rw [HLR.out]; rfl), HT1.out, HT2.out, by rw [HLR.out]; exact HC2.out.put OR2.out, HLI.out, HMZ.out, HGZ.out⟩
    | true =>
      have VX := Aside0.mk ((var_f rx).trans (congrArg some hx))
      cases hy : isVar ry with
      | false =>
        have VY := Aside0.mk ((var_f ry).trans (congrArg some hy))
        have HLR := Aside0.mk (show linkR rx ry C2 = (true, C2.set rx ry) by unfold linkR; rw [if_neg he, hx, hy]; rfl)
        go_wp2_with (first
          | (go_at_call 27; (with_reducible refine (term_Variable.calls ry.f0 ry.f1 ry.f2 false _ VY.out).mono ?_); rintro e w3_ ⟨rfl, hb⟩; have I3 := Aside0.mk (I2.out.up hb); clear hb; have pa3_0 := (blk_cell I3.out.ka 0).trans rfl; have pa3_1 := (blk_cell I3.out.ka 1).trans rfl; have pa3_2 := (blk_cell I3.out.ka 2).trans rfl; have pb3_0 := (blk_cell I3.out.kb 0).trans rfl; have pb3_1 := (blk_cell I3.out.kb 1).trans rfl; have pb3_2 := (blk_cell I3.out.kb 2).trans rfl)
          | (go_at_call 27; (with_reducible refine (term_Variable.calls rx.f0 rx.f1 rx.f2 true _ VX.out).mono ?_); rintro e w2_ ⟨rfl, hb⟩; have I2 := Aside0.mk (I1.out.up hb); clear hb; have pa2_0 := (blk_cell I2.out.ka 0).trans rfl; have pa2_1 := (blk_cell I2.out.ka 1).trans rfl; have pa2_2 := (blk_cell I2.out.ka 2).trans rfl; have pb2_0 := (blk_cell I2.out.kb 0).trans rfl; have pb2_1 := (blk_cell I2.out.kb 1).trans rfl; have pb2_2 := (blk_cell I2.out.kb 2).trans rfl)
          | (go_at_call 27; (with_reducible refine (term_Variable.calls rx.f0 rx.f1 rx.f2 true _ VX.out).mono ?_); rintro e w1_ ⟨rfl, hb⟩; have I1 := Aside0.mk (I0.out.up hb); clear hb; have pa1_0 := (blk_cell I1.out.ka 0).trans rfl; have pa1_1 := (blk_cell I1.out.ka 1).trans rfl; have pa1_2 := (blk_cell I1.out.ka 2).trans rfl; have pb1_0 := (blk_cell I1.out.kb 0).trans rfl; have pb1_1 := (blk_cell I1.out.kb 1).trans rfl; have pb1_2 := (blk_cell I1.out.kb 2).trans rfl)
          | (at_mapUpdate; refine updC_event _ rfl _ _ _ rfl b (n + 2) D2 C2 rx ry rfl I3.out.m HC2.out (by have := HN.out; omega) rfl rfl OR1.out ?_; intro wz hmz hgz; have HMZ := Aside0.mk hmz; have HGZ := Aside0.mk (World.grownBy.trans I3.out.g hgz); clear hmz hgz)
          | go_in)
        go_ret
        exact ⟨rx, ry, C1, C2, D2.put (keyT rx) (.held ry), (by rw [HLR.out]; rfl), HT1.out, HT2.out, by rw [HLR.out]; exact HC2.out.put OR1.out, HLI.out, HMZ.out, HGZ.out⟩
      | true =>
        have VY := Aside0.mk ((var_f ry).trans (congrArg some hy))
        by_cases hl : rx.f1 < ry.f1
        · have hlb : decide (rx.f1 < ry.f1) = true := decide_eq_true hl
          have HLR := Aside0.mk (show linkR rx ry C2 = (true, C2.set ry rx) by unfold linkR; rw [if_neg he, hx, hy, hlb]; rfl)
          go_wp2_with (first
            | (go_at_call 27; (with_reducible refine (term_Variable.calls ry.f0 ry.f1 ry.f2 true _ VY.out).mono ?_); rintro e w3_ ⟨rfl, hb⟩; have I3 := Aside0.mk (I2.out.up hb); clear hb; have pa3_0 := (blk_cell I3.out.ka 0).trans rfl; have pa3_1 := (blk_cell I3.out.ka 1).trans rfl; have pa3_2 := (blk_cell I3.out.ka 2).trans rfl; have pb3_0 := (blk_cell I3.out.kb 0).trans rfl; have pb3_1 := (blk_cell I3.out.kb 1).trans rfl; have pb3_2 := (blk_cell I3.out.kb 2).trans rfl)
            | (go_at_call 27; (with_reducible refine (term_Variable.calls rx.f0 rx.f1 rx.f2 true _ VX.out).mono ?_); rintro e w2_ ⟨rfl, hb⟩; have I2 := Aside0.mk (I1.out.up hb); clear hb; have pa2_0 := (blk_cell I2.out.ka 0).trans rfl; have pa2_1 := (blk_cell I2.out.ka 1).trans rfl; have pa2_2 := (blk_cell I2.out.ka 2).trans rfl; have pb2_0 := (blk_cell I2.out.kb 0).trans rfl; have pb2_1 := (blk_cell I2.out.kb 1).trans rfl; have pb2_2 := (blk_cell I2.out.kb 2).trans rfl)
            | (go_at_call 27; (with_reducible refine (term_Variable.calls rx.f0 rx.f1 rx.f2 true _ VX.out).mono ?_); rintro e w1_ ⟨rfl, hb⟩; have I1 := Aside0.mk (I0.out.up hb); clear hb; have pa1_0 := (blk_cell I1.out.ka 0).trans rfl; have pa1_1 := (blk_cell I1.out.ka 1).trans rfl; have pa1_2 := (blk_cell I1.out.ka 2).trans rfl; have pb1_0 := (blk_cell I1.out.kb 0).trans rfl; have pb1_1 := (blk_cell I1.out.kb 1).trans rfl; have pb1_2 := (blk_cell I1.out.kb 2).trans rfl)
            | (at_mapUpdate; refine updC_event _ rfl _ _ _ rfl b (n + 2) D2 C2 ry rx rfl I3.out.m HC2.out (by have := HN.out; omega) rfl rfl OR2.out ?_; intro wz hmz hgz; have HMZ := Aside0.mk hmz; have HGZ := Aside0.mk (World.grownBy.trans I3.out.g hgz); clear hmz hgz)
            | go_in)
          go_ret
          exact ⟨rx, ry, C1, C2, D2.put (keyT ry) (.held rx), (by rw [HLR.out]; rfl), HT1.out, HT2.out, by rw [HLR.out]; exact HC2.out.put OR2.out, HLI.out, HMZ.out, HGZ.out⟩
        · have hlb : decide (rx.f1 < ry.f1) = false := decide_eq_false hl
          have HLR := Aside0.mk (show linkR rx ry C2 = (true, C2.set rx ry) by unfold linkR; rw [if_neg he, hx, hy, hlb]; rfl)
          go_wp2_with (first
            | (go_at_call 27; (with_reducible refine (term_Variable.calls ry.f0 ry.f1 ry.f2 true _ VY.out).mono ?_); rintro e w3_ ⟨rfl, hb⟩; have I3 := Aside0.mk (I2.out.up hb); clear hb; have pa3_0 := (blk_cell I3.out.ka 0).trans rfl; have pa3_1 := (blk_cell I3.out.ka 1).trans rfl; have pa3_2 := (blk_cell I3.out.ka 2).trans rfl; have pb3_0 := (blk_cell I3.out.kb 0).trans rfl; have pb3_1 := (blk_cell I3.out.kb 1).trans rfl; have pb3_2 := (blk_cell I3.out.kb 2).trans rfl)
            | (go_at_call 27; (with_reducible refine (term_Variable.calls rx.f0 rx.f1 rx.f2 true _ VX.out).mono ?_); rintro e w2_ ⟨rfl, hb⟩; have I2 := Aside0.mk (I1.out.up hb); clear hb; have pa2_0 := (blk_cell I2.out.ka 0).trans rfl; have pa2_1 := (blk_cell I2.out.ka 1).trans rfl; have pa2_2 := (blk_cell I2.out.ka 2).trans rfl; have pb2_0 := (blk_cell I2.out.kb 0).trans rfl; have pb2_1 := (blk_cell I2.out.kb 1).trans rfl; have pb2_2 := (blk_cell I2.out.kb 2).trans rfl)
            | (go_at_call 27; (with_reducible refine (term_Variable.calls rx.f0 rx.f1 rx.f2 true _ VX.out).mono ?_); rintro e w1_ ⟨rfl, hb⟩; have I1 := Aside0.mk (I0.out.up hb); clear hb; have pa1_0 := (blk_cell I1.out.ka 0).trans rfl; have pa1_1 := (blk_cell I1.out.ka 1).trans rfl; have pa1_2 := (blk_cell I1.out.ka 2).trans rfl; have pb1_0 := (blk_cell I1.out.kb 0).trans rfl; have pb1_1 := (blk_cell I1.out.kb 1).trans rfl; have pb1_2 := (blk_cell I1.out.kb 2).trans rfl)
            | (at_mapUpdate; refine updC_event _ rfl _ _ _ rfl b (n + 2) D2 C2 rx ry rfl I3.out.m HC2.out (by have := HN.out; omega) rfl rfl OR1.out ?_; intro wz hmz hgz; have HMZ := Aside0.mk hmz; have HGZ := Aside0.mk (World.grownBy.trans I3.out.g hgz); clear hmz hgz)
            | go_in)
          go_ret
          exact ⟨rx, ry, C1, C2, D2.put (keyT rx) (.held ry), (by rw [HLR.out]; rfl), HT1.out, HT2.out, by rw [HLR.out]; exact HC2.out.put OR1.out, HLI.out, HMZ.out, HGZ.out⟩
end Go.Proofs.YtnomgmlfagiffaaDoor.T
/- Unify, plainly: the classes as functions. -/
set_option linter.unusedVariables false
set_option linter.unusedSimpArgs false
namespace Go.Proofs.YtnomgmlfagiffaaDoor.T
open Go.RowKit Go.Maps Go.Proofs.YtnomgmlfagiffaaDoorW.PrintWords Go.Proofs.YtnomgmlfagiffaaDoorW.PrintLast
noncomputable def topN : Nat → Cl → Tm → Tm × Cl
  | 0, C, t => (t, C)
  | k + 1, C, t => match C t with
    | none => (t, C.set t t)
    | some u => if eqT u t then (t, C) else topN k C u
noncomputable def topF (C : Cl) (t : Tm) : Tm × Cl := topN (rankT t + 1) C t
theorem top_fun {C C' : Cl} {t r : Tm} (h : Top C t r C') (hI : InvC C) : ∀ k, rankT t < k → topN k C t = (r, C') := by
  induction h with
  | new h =>
    intro k hk
    obtain ⟨k, rfl⟩ : ∃ j, k = j + 1 := ⟨k - 1, by omega⟩
    simp only [topN, h]
  | self h =>
    intro k hk
    obtain ⟨k, rfl⟩ : ∃ j, k = j + 1 := ⟨k - 1, by omega⟩
    simp only [topN, h]
    rw [if_pos ((eqT_iff _ _).2 rfl)]
  | step h hu h2 ih =>
    intro k hk
    obtain ⟨k, rfl⟩ : ∃ j, k = j + 1 := ⟨k - 1, by omega⟩
    simp only [topN, h]
    rw [if_neg (fun e => hu ((eqT_iff _ _).1 e))]
    exact ih k (by have := hI.down _ _ h hu; omega)
theorem top_eq {C C' : Cl} {t r : Tm} (h : Top C t r C') (hI : InvC C) : r = (topF C t).1 ∧ C' = (topF C t).2 := by
  have := top_fun h hI (rankT t + 1) (by omega)
  unfold topF
  rw [this]
  exact ⟨rfl, rfl⟩
noncomputable def linkF (C : Cl) (a b : Tm) : Bool × Cl := linkR (topF C a).1 (topF (topF C a).2 b).1 (topF (topF C a).2 b).2
noncomputable def linkAll : List Tm → List Tm → Cl → Option Cl
  | [], _, C => some C
  | _ :: _, [], _ => none
  | t :: p, u :: q, C => if (linkF C t u).1 then linkAll p q (linkF C t u).2 else none
noncomputable def byAll : List Tm → Cl → Option Cl
  | [], C => some C
  | t :: l, C => if isVar t && (!isVar (topF C t).1 && !isPrin (topF C t).1) then none else byAll l (topF C t).2
noncomputable def finU : List Tm → Cl → List Bd → List Bd
  | [], _, m => m
  | t :: l, C, m => finU l (topF C t).2 (if isVar t && !eqT (topF C t).1 t then putM t.f1 (topF C t).1 m else m)
noncomputable def unifyL (n0 : ByteArray) (p : List Tm) (n1 : ByteArray) (q : List Tm) (x y : Tm) : List Bd × Bool :=
  if n0.toList ≠ n1.toList ∨ p.length ≠ q.length then ([], false)
  else match linkAll (x :: p) (y :: q) (fun _ => none) with
    | none => ([], false)
    | some C => match byAll [x, y] C with
      | none => ([], false)
      | some C => (finU ((x :: p) ++ (y :: q)) C [], true)
noncomputable def term_Unify.f (a0_0 : Int) (a0_1 : Int) (a0_2 : ByteArray) (a0_3 : ByteArray) (l0_4 : List Tm) (a1_0 : Int) (a1_1 : Int) (a1_2 : ByteArray) (a1_3 : ByteArray) (l1_4 : List Tm) : Option (List Bd × Bool) :=
  if (okT ⟨a0_0, a0_1, a0_2⟩ && okT ⟨a1_0, a1_1, a1_2⟩ && l0_4.all okT && l1_4.all okT && decide (l0_4.length < smallN) && decide (l1_4.length < smallN)) = true then
    some (unifyL a0_3 l0_4 a1_3 l1_4 ⟨a0_0, a0_1, a0_2⟩ ⟨a1_0, a1_1, a1_2⟩)
  else none
theorem top_calls2 (b n : Nat) (D : DataW Tm) (C : Cl) (t : Tm) (w : World) (hm : w.ownsMap Tryd.prog 23 RT b n D) (hC : ClsD D C) (hI : InvC C) (ot : okT t = true) (hn : n < maxLen) :
    Calls Tryd.prog 60 #[.map (some b), .agg #[.int .i64 t.f0, .int .i64 t.f1, .string t.f2]] w fun e w' => ∃ D', e = .returned (.agg #[.int .i64 (topF C t).1.f0, .int .i64 (topF C t).1.f1, .string (topF C t).1.f2]) ∧ ClsD D' (topF C t).2 ∧ InvC (topF C t).2 ∧ okT (topF C t).1 = true ∧ w'.ownsMap Tryd.prog 23 RT b (n + 1) D' ∧ w.grownBy w' (some b) := by
  refine (top_calls b n D C t w hm hC hI ot hn).mono ?_
  rintro e w' ⟨r, C', D', rfl, hT, hok, hC', hm', hg'⟩
  obtain ⟨rfl, rfl⟩ := top_eq hT hI
  exact ⟨D', rfl, hC', top_inv hT hI ot, hok, hm', hg'⟩
theorem link_calls2 (b n : Nat) (D : DataW Tm) (C : Cl) (x y : Tm) (w : World) (hm : w.ownsMap Tryd.prog 23 RT b n D) (hC : ClsD D C) (hI : InvC C) (ox : okT x = true) (oy : okT y = true) (hn : n + 3 < maxLen) :
    Calls Tryd.prog 59 #[.map (some b), .agg #[.int .i64 x.f0, .int .i64 x.f1, .string x.f2], .agg #[.int .i64 y.f0, .int .i64 y.f1, .string y.f2]] w fun e w' => ∃ D', e = .returned (.bool (linkF C x y).1) ∧ ClsD D' (linkF C x y).2 ∧ InvC (linkF C x y).2 ∧ w'.ownsMap Tryd.prog 23 RT b (n + 3) D' ∧ w.grownBy w' (some b) := by
  refine (link_calls b n D C x y w hm hC hI ox oy hn).mono ?_
  rintro e w' ⟨rx, ry, C1, C2, D', rfl, hT1, hT2, hC', hI', hm', hg'⟩
  obtain ⟨rfl, rfl⟩ := top_eq hT1 hI
  obtain ⟨rfl, rfl⟩ := top_eq hT2 (top_inv hT1 hI ox)
  exact ⟨D', rfl, hC', hI', hm', hg'⟩
theorem top_calls3 (b n : Nat) (D : DataW Tm) (C : Cl) (t r : Tm) (C' : Cl) (w : World) (hm : w.ownsMap Tryd.prog 23 RT b n D) (hC : ClsD D C) (hI : InvC C) (ot : okT t = true) (hn : n < maxLen) (h : topF C t = (r, C')) :
    Calls Tryd.prog 60 #[.map (some b), .agg #[.int .i64 t.f0, .int .i64 t.f1, .string t.f2]] w fun e w' => ∃ D', e = .returned (.agg #[.int .i64 r.f0, .int .i64 r.f1, .string r.f2]) ∧ ClsD D' C' ∧ InvC C' ∧ okT r = true ∧ w'.ownsMap Tryd.prog 23 RT b (n + 1) D' ∧ w.grownBy w' (some b) := by
  have := top_calls2 b n D C t w hm hC hI ot hn
  rw [h] at this
  exact this
theorem link_calls3 (b n : Nat) (D : DataW Tm) (C : Cl) (x y : Tm) (ok : Bool) (C' : Cl) (w : World) (hm : w.ownsMap Tryd.prog 23 RT b n D) (hC : ClsD D C) (hI : InvC C) (ox : okT x = true) (oy : okT y = true) (hn : n + 3 < maxLen) (h : linkF C x y = (ok, C')) :
    Calls Tryd.prog 59 #[.map (some b), .agg #[.int .i64 x.f0, .int .i64 x.f1, .string x.f2], .agg #[.int .i64 y.f0, .int .i64 y.f1, .string y.f2]] w fun e w' => ∃ D', e = .returned (.bool ok) ∧ ClsD D' C' ∧ InvC C' ∧ w'.ownsMap Tryd.prog 23 RT b (n + 3) D' ∧ w.grownBy w' (some b) := by
  have := link_calls2 b n D C x y w hm hC hI ox oy hn
  rw [h] at this
  exact this
end Go.Proofs.YtnomgmlfagiffaaDoor.T
