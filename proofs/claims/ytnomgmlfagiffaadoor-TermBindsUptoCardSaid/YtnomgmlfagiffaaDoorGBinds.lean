/- The walk of TermBinds. -/
import Derived.Test.YtnomgmlfagiffaaDoorPureB
import Derived.Test.YtnomgmlfagiffaaDoorT24
import Derived.Test.YtnomgmlfagiffaaDoorPureFirst
set_option linter.unusedVariables false
set_option linter.unusedSimpArgs false
namespace Go.Proofs.YtnomgmlfagiffaaDoor.T
open Go.RowKit Go.Proofs.YtnomgmlfagiffaaDoorW.PrintWords Go.Proofs.YtnomgmlfagiffaaDoorW.PrintLast
attribute [local go_sem high] eqA23
attribute [local go_sem ↓] Go.wp_at_zero Go.wp_at_succ
/-- What a law's walk carries: nothing old has turned, the lent lists are as they were made, its own variable. -/
structure BInv (w W : World) (s : List Bd) (l : List Tm) (g0 c0 g1 c1 : Nat) : Prop where
  below : Below w.heap.size w W
  own : Kd.R k44 44 W w.heap.size (fun _ => True) (.slice (some ⟨g0, 0, none⟩) (s.length + 1) c0) (s ++ [lateB])
  x : Kd.R k23 23 W w.heap.size (fun _ => True) (.slice (some ⟨g1, 0, none⟩) (l.length + 1) c1) (l ++ [markT])
theorem BInv.up {w W W' : World} {s : List Bd} {l : List Tm} {g0 c0 g1 c1 : Nat} (h : BInv w W s l g0 c0 g1 c1) (hb : Below W.heap.size W W') : BInv w W' s l g0 c0 g1 c1 :=
  ⟨below_step h.below hb, Kd.R_below h.own hb, Kd.R_below h.x hb⟩
theorem R_room {α : Type} {d : Kd α} {e : Nat} {w : World} {base : Nat} {ok : Nat → Prop} {g n c : Nat} {l : List α} (h : d.R e w base ok (.slice (some ⟨g, 0, none⟩) n c) l) (hl : 0 < l.length) : l.length ≤ c := by
  obtain ⟨g', c', e1, hc, _⟩ := R_head h hl
  injection e1 with _ _ e3
  rw [e3]; exact hc
theorem R_cap {α : Type} {d : Kd α} {e : Nat} {w : World} {base : Nat} {ok : Nat → Prop} {A : Option Addr} {n c : Nat} {l : List α} (h : d.R e w base ok (.slice A n c) l) : l.length ≤ c := by
  obtain ⟨A', c', he, hl, _⟩ := Kd.R_reads h
  injection he with _ _ e3
  rw [e3]; exact hl
theorem cell_up {W W' : World} {a : Addr} {v : Value} (h : W.cell? a = some v) (hb : Below W.heap.size W W') : W'.cell? a = some v := (hb.cell (World.block_lt_of_cell? W a h)).trans h
set_option maxHeartbeats 4000000 in
set_option maxRecDepth 100000 in
theorem binds_calls (s : List Bd) (v : Int) (t : Tm) (nm : ByteArray) (l : List Tm) (A0 : Option Addr) (c0 : Nat) (A1 : Option Addr) (c1 : Nat) (w : World) (hr0 : Kd.C k44 w A0 s.length s) (hc0 : s.length ≤ c0) (hr1 : Kd.C k23 w A1 l.length l) (hc1 : l.length ≤ c1)
    (hLn : Laid2 w) (hLl : Laid0 w) (hLm : Laid1 w) (ls : s.length < smallN) (ll : l.length < smallN) :
    Calls Tryd.prog 4 #[.slice A0 s.length c0, .int .i64 v, .agg #[.int .i64 t.f0, .int .i64 t.f1, .string t.f2, .string nm, .slice A1 l.length c1]] w fun e w' => e = .returned (.bool true) ∧ Below w.heap.size w w' := by
  have hu26 := Tryd.underlying26
  have hu23 := Tryd.underlying23
  have HP : Aside0 ((Kd.C k44 w A0 s.length s ∧ s.length ≤ c0) ∧ (Kd.C k23 w A1 l.length l ∧ l.length ≤ c1) ∧ Laid2 w ∧ Laid0 w ∧ Laid1 w ∧ s.length < smallN ∧ l.length < smallN) := ⟨⟨hr0, hc0⟩, ⟨hr1, hc1⟩, hLn, hLl, hLm, ls, ll⟩
  clear hr0 hc0 hr1 hc1 hLn hLl hLm ls ll
  obtain ⟨u, hu⟩ : ∃ u, lookR s v = u := ⟨_, rfl⟩
  obtain ⟨u0, u1, u2, u3⟩ := u
  have HU := Aside0.mk hu
  clear hu
  obtain ⟨b, hb⟩ : ∃ b, becomeT s t = b := ⟨_, rfl⟩
  obtain ⟨m, hm⟩ : ∃ m, l.map (becomeT s) = m := ⟨_, rfl⟩
  have HBM := Aside0.mk (show becomeT s t = b ∧ l.map (becomeT s) = m ∧ m.length = l.length from ⟨hb, hm, by rw [← hm]; simp⟩)
  clear hb hm
  go_enter Tryd.func4, Tryd.ntmps4
  go_wp2_with (first
    | ((with_reducible refine gate_dst (N := 5) rfl ?_); refine box_event ?hg (N := 5) ?hd (cs := #[.int .i64 t.f0, .int .i64 t.f1, .string t.f2, .string nm, .slice A1 l.length c1]) (t := 26) ?hr ?_; (case hd => rfl); (case hg => rfl); (case hr => first | (go_simp; done) | (go_simp; rfl)); intro b5 hb5 w0 hbox hb; have K5 := Aside0.mk hbox; have HB0 := Aside0.mk hb; clear hb5 hbox hb)
    | (go_at_call 12; refine (lend_calls A0 c0 s _ (Kd.C_below HP.out.1.1 HB0.out) HP.out.1.2 (Laid0.up HP.out.2.2.2.1 HB0.out) HP.out.2.2.2.2.2.1).mono ?_; rintro e w1 ⟨g0, d0, rfl, hR, hb⟩; have RO := Aside0.mk (Kd.R_lower hR HB0.out.size); have HB1 := Aside0.mk (below_step HB0.out hb); have K51 := Aside0.mk (blk_below K5.out hb); clear hR hb K5 HB0; have ca0 := (blk_cell K51.out 0).trans rfl; have ca1 := (blk_cell K51.out 1).trans rfl; have ca2 := (blk_cell K51.out 2).trans rfl; have ca3 := (blk_cell K51.out 3).trans rfl; have ca4 := (blk_cell K51.out 4).trans rfl)
    | (go_at_call 13; refine (lent_calls t nm A1 c1 l _ (Kd.C_below HP.out.2.1.1 HB1.out) HP.out.2.1.2 (Laid1.up HP.out.2.2.2.2.1 HB1.out) HP.out.2.2.2.2.2.2).mono ?_; rintro e w2 ⟨g1, d1, rfl, hR, hb⟩; have II := Aside0.mk (BInv.mk (below_step HB1.out hb) (Kd.R_below RO.out hb) (Kd.R_lower hR HB1.out.size)); have K5 := Aside0.mk (blk_below K51.out hb); clear hR hb K51 HB1 RO ca0 ca1 ca2 ca3 ca4)
    | (go_at_call 20; refine (term_Look.calls (s.length + 1) (some ⟨g0, 0, none⟩) d0 s v u0 u1 u2 u3 _ (C_front (R_C' (II.out.up (below_alloc (Below.refl _ _) _)).own)) (by have := R_room II.out.own (by simp); simp at this; omega) (Laid2.up HP.out.2.2.1 (II.out.up (below_alloc (Below.refl _ _) _)).below) (by rw [look_f s v HP.out.2.2.2.2.2.1 _ (Nat.le_refl _), HU.out])).mono ?_; rintro e w3 ⟨rfl, hb⟩; have I3 := Aside0.mk (II.out.up (below_step (below_alloc (Below.refl _ w2) _) hb)); have K53 := Aside0.mk (blk_below (blk_alloc K5.out _) hb); have K83 := Aside0.mk (blk_below (blk_new w2 _) hb); clear hb K5 II)
    | (go_at_call 21; refine (hearsayref02_Look.calls (s.length + 1) A0 c0 s v u0 u1 u2 u3 _ (Kd.C_below HP.out.1.1 (I3.out.up (below_alloc (Below.refl _ _) _)).below) HP.out.1.2 (by rw [rlook_f s v HP.out.2.2.2.2.2.1 _ (Nat.le_refl _), HU.out])).mono ?_; rintro e w4 ⟨rfl, hb⟩; have I4 := Aside0.mk (I3.out.up (below_step (below_alloc (Below.refl _ w3) _) hb)); have K54 := Aside0.mk (blk_below (blk_alloc K53.out _) hb); have K84 := Aside0.mk (blk_below (blk_alloc K83.out _) hb); have K94 := Aside0.mk (blk_below (blk_new w3 _) hb); clear hb K53 K83 I3)
    | go_in)
  have hu5 : u3 = u3 := rfl
  have hbn := blk_new w4 (Obj.cells #[.int .i64 u0, .int .i64 u1, .string u2] 23 (0, 0))
  have hbx := below_alloc (Below.refl w4.heap.size w4) (Obj.cells #[.int .i64 u0, .int .i64 u1, .string u2] 23 (0, 0))
  have K55 := blk_alloc K54.out (Obj.cells #[.int .i64 u0, .int .i64 u1, .string u2] 23 (0, 0))
  have K85 := blk_alloc K84.out (Obj.cells #[.int .i64 u0, .int .i64 u1, .string u2] 23 (0, 0))
  have K95 := blk_alloc K94.out (Obj.cells #[.int .i64 u0, .int .i64 u1, .string u2] 23 (0, 0))
  generalize w4.alloc (Obj.cells #[.int .i64 u0, .int .i64 u1, .string u2] 23 (0, 0)) = w5 at hbn hbx K55 K85 K95 ⊢
  have I5 : Aside0 (BInv w w5.drew s l g0 d0 g1 d1) := ⟨(I4.out.up hbx).up (Below.refl _ w5).drew⟩
  have hc0 : w5.drew.cell? ⟨w3.heap.size, 0, none⟩ = some (.int .i64 u0) := (blk_cell K95 0).trans rfl
  have hc1 : w5.drew.cell? ⟨w3.heap.size, 1, none⟩ = some (.int .i64 u1) := (blk_cell K95 1).trans rfl
  have hc2 : w5.drew.cell? ⟨w3.heap.size, 2, none⟩ = some (.string u2) := (blk_cell K95 2).trans rfl
  have hc3 : w5.drew.cell? ⟨w4.heap.size, 0, none⟩ = some (.int .i64 u0) := (blk_cell hbn 0).trans rfl
  have hc4 : w5.drew.cell? ⟨w4.heap.size, 1, none⟩ = some (.int .i64 u1) := (blk_cell hbn 1).trans rfl
  have hc5 : w5.drew.cell? ⟨w4.heap.size, 2, none⟩ = some (.string u2) := (blk_cell hbn 2).trans rfl
  have hc6 : w5.drew.cell? ⟨w2.heap.size, 0, none⟩ = some (.int .i64 t.f0) := (blk_cell K85 0).trans rfl
  have hc7 : w5.drew.cell? ⟨w2.heap.size, 1, none⟩ = some (.int .i64 t.f1) := (blk_cell K85 1).trans rfl
  have hc8 : w5.drew.cell? ⟨w2.heap.size, 2, none⟩ = some (.string t.f2) := (blk_cell K85 2).trans rfl
  have hc9 : w5.drew.cell? ⟨w2.heap.size, 3, none⟩ = some (.string nm) := (blk_cell K85 3).trans rfl
  have hc10 : w5.drew.cell? ⟨w2.heap.size, 4, none⟩ = some (.slice (some ⟨g1, 0, none⟩) l.length d1) := (blk_cell K85 4).trans rfl
  have hc11 : w5.drew.cell? ⟨b5, 0, none⟩ = some (.int .i64 t.f0) := (blk_cell K55 0).trans rfl
  have hc12 : w5.drew.cell? ⟨b5, 1, none⟩ = some (.int .i64 t.f1) := (blk_cell K55 1).trans rfl
  have hc13 : w5.drew.cell? ⟨b5, 2, none⟩ = some (.string t.f2) := (blk_cell K55 2).trans rfl
  have hc14 : w5.drew.cell? ⟨b5, 3, none⟩ = some (.string nm) := (blk_cell K55 3).trans rfl
  have hc15 : w5.drew.cell? ⟨b5, 4, none⟩ = some (.slice A1 l.length c1) := (blk_cell K55 4).trans rfl
  clear hbn hbx K55 K85 K95 hu5
  refine start_ (n := 18) (S := fun w' => w'.cell? ⟨w3.heap.size, 0, none⟩ = some (.int .i64 u0) ∧ w'.cell? ⟨w3.heap.size, 1, none⟩ = some (.int .i64 u1) ∧ w'.cell? ⟨w3.heap.size, 2, none⟩ = some (.string u2) ∧ w'.cell? ⟨w4.heap.size, 0, none⟩ = some (.int .i64 u0) ∧ w'.cell? ⟨w4.heap.size, 1, none⟩ = some (.int .i64 u1) ∧ w'.cell? ⟨w4.heap.size, 2, none⟩ = some (.string u2) ∧ w'.cell? ⟨w2.heap.size, 0, none⟩ = some (.int .i64 t.f0) ∧ w'.cell? ⟨w2.heap.size, 1, none⟩ = some (.int .i64 t.f1) ∧ w'.cell? ⟨w2.heap.size, 2, none⟩ = some (.string t.f2) ∧ w'.cell? ⟨w2.heap.size, 3, none⟩ = some (.string nm) ∧ w'.cell? ⟨w2.heap.size, 4, none⟩ = some (.slice (some ⟨g1, 0, none⟩) l.length d1) ∧ w'.cell? ⟨b5, 0, none⟩ = some (.int .i64 t.f0) ∧ w'.cell? ⟨b5, 1, none⟩ = some (.int .i64 t.f1) ∧ w'.cell? ⟨b5, 2, none⟩ = some (.string t.f2) ∧ w'.cell? ⟨b5, 3, none⟩ = some (.string nm) ∧ w'.cell? ⟨b5, 4, none⟩ = some (.slice A1 l.length c1)) (ds := []) #[false, false, false, false, false, false, false, false, false, false, false, false, false, false, false, false, false, false] (by kernel_rfl) rfl rfl ⟨hc0, hc1, hc2, hc3, hc4, hc5, hc6, hc7, hc8, hc9, hc10, hc11, hc12, hc13, hc14, hc15⟩ (fun hHeld => ?_)
  refine take_ (i := 0) (N := some 29) (v := ?_) (a' := ?_) #[true, false, false, false, false, false, false, false, false, false, false, false, false, false, false, false, false, false] rfl rfl (by kernel_rfl) (fun _ _ _ h => h) (Or.inl ⟨by rfl, ?_⟩) hHeld ?_ ?_
  rotate_left
  · rintro w' ⟨s0, s1, s2, s3, s4, s5, s6, s7, s8, s9, s10, s11, s12, s13, s14, s15⟩
    go_simp
    with_reducible rfl
  rotate_left
  · simp only [Act.put, List.setIfInBounds_toArray, List.set_cons_zero, List.set_cons_succ, i64_w, i32_w]
    rfl
  refine take_ (i := 1) (N := some 30) (v := ?_) (a' := ?_) #[true, true, false, false, false, false, false, false, false, false, false, false, false, false, false, false, false, false] rfl rfl (by kernel_rfl) (fun _ _ _ h => h) (Or.inl ⟨by rfl, ?_⟩) hHeld ?_ ?_
  rotate_left
  · rintro w' ⟨s0, s1, s2, s3, s4, s5, s6, s7, s8, s9, s10, s11, s12, s13, s14, s15⟩
    go_simp
    with_reducible rfl
  rotate_left
  · simp only [Act.put, List.setIfInBounds_toArray, List.set_cons_zero, List.set_cons_succ, i64_w, i32_w]
    rfl
  refine pure_ (i := 2) (N := some 31) (v := ?_) (a' := ?_) #[true, true, true, false, false, false, false, false, false, false, false, false, false, false, false, false, false, false] rfl rfl (by kernel_rfl) (fun _ _ _ h => h) (Or.inl ⟨by rfl, ?_⟩) ?_ ?_
  rotate_left
  · intro w'
    go_simp
    with_reducible rfl
  rotate_left
  · simp only [Act.put, List.setIfInBounds_toArray, List.set_cons_zero, List.set_cons_succ, i64_w, i32_w]
    rfl
  refine pure_ (i := 3) (N := some 32) (v := ?_) (a' := ?_) #[true, true, true, true, false, false, false, false, false, false, false, false, false, false, false, false, false, false] rfl rfl (by kernel_rfl) (fun _ _ _ h => h) (Or.inl ⟨by rfl, ?_⟩) ?_ ?_
  rotate_left
  · intro w'
    go_simp
    with_reducible rfl
  rotate_left
  · simp only [Act.put, List.setIfInBounds_toArray, List.set_cons_zero, List.set_cons_succ, i64_w, i32_w]
    rfl
  refine pure_ (i := 4) (N := some 33) (v := ?_) (a' := ?_) #[true, true, true, true, true, false, false, false, false, false, false, false, false, false, false, false, false, false] rfl rfl (by kernel_rfl) (fun _ _ _ h => h) (Or.inl ⟨by rfl, ?_⟩) ?_ ?_
  rotate_left
  · intro w'
    go_simp
    with_reducible rfl
  rotate_left
  · simp only [Act.put, List.setIfInBounds_toArray, List.set_cons_zero, List.set_cons_succ, i64_w, i32_w]
    rfl
  refine pure_ (i := 5) (N := some 34) (v := ?_) (a' := ?_) #[true, true, true, true, true, true, false, false, false, false, false, false, false, false, false, false, false, false] rfl rfl (by kernel_rfl) (fun _ _ _ h => h) (Or.inl ⟨by rfl, ?_⟩) ?_ ?_
  rotate_left
  · intro w'
    go_simp
    with_reducible rfl
  rotate_left
  · simp only [Act.put, List.setIfInBounds_toArray, List.set_cons_zero, List.set_cons_succ, i64_w, i32_w]
    rfl
  refine pure_ (i := 6) (N := some 35) (v := ?_) (a' := ?_) #[true, true, true, true, true, true, true, false, false, false, false, false, false, false, false, false, false, false] rfl rfl (by kernel_rfl) (fun _ _ _ h => h) (Or.inl ⟨by rfl, ?_⟩) ?_ ?_
  rotate_left
  · intro w'
    go_simp
    with_reducible rfl
  rotate_left
  · simp only [Act.put, List.setIfInBounds_toArray, List.set_cons_zero, List.set_cons_succ, i64_w, i32_w]
    rfl
  refine pure_ (i := 7) (N := some 36) (v := ?_) (a' := ?_) #[true, true, true, true, true, true, true, true, false, false, false, false, false, false, false, false, false, false] rfl rfl (by kernel_rfl) (fun _ _ _ h => h) (Or.inl ⟨by rfl, ?_⟩) ?_ ?_
  rotate_left
  · intro w'
    go_simp
    with_reducible rfl
  rotate_left
  · simp only [Act.put, List.setIfInBounds_toArray, List.set_cons_zero, List.set_cons_succ, i64_w, i32_w]
    rfl
  refine pure_ (i := 8) (N := some 37) (v := ?_) (a' := ?_) #[true, true, true, true, true, true, true, true, true, false, false, false, false, false, false, false, false, false] rfl rfl (by kernel_rfl) (fun _ _ _ h => h) (Or.inl ⟨by rfl, ?_⟩) ?_ ?_
  rotate_left
  · intro w'
    go_simp
    with_reducible rfl
  rotate_left
  · simp only [Act.put, List.setIfInBounds_toArray, List.set_cons_zero, List.set_cons_succ, i64_w, i32_w]
    rfl
  refine pure_ (i := 9) (N := some 38) (v := ?_) (a' := ?_) #[true, true, true, true, true, true, true, true, true, true, false, false, false, false, false, false, false, false] rfl rfl (by kernel_rfl) (fun _ _ _ h => h) (Or.inl ⟨by rfl, ?_⟩) ?_ ?_
  rotate_left
  · intro w'
    go_simp
    with_reducible rfl
  rotate_left
  · simp only [Act.put, List.setIfInBounds_toArray, List.set_cons_zero, List.set_cons_succ, i64_w, i32_w]
    rfl
  refine pure_ (i := 12) (N := some 41) (v := ?_) (a' := ?_) #[true, true, true, true, true, true, true, true, true, true, false, false, true, false, false, false, false, false] rfl rfl (by kernel_rfl) (fun _ _ _ h => h) (Or.inl ⟨by rfl, ?_⟩) ?_ ?_
  rotate_left
  · intro w'
    go_simp
    with_reducible rfl
  rotate_left
  · simp only [Act.put, List.setIfInBounds_toArray, List.set_cons_zero, List.set_cons_succ, i64_w, i32_w]
    rfl
  refine take_ (i := 10) (N := some 39) (v := ?_) (a' := ?_) #[true, true, true, true, true, true, true, true, true, true, true, false, true, false, false, false, false, false] rfl rfl (by kernel_rfl) (fun _ _ _ h => h) (Or.inl ⟨by rfl, ?_⟩) hHeld ?_ ?_
  rotate_left
  · rintro w' ⟨s0, s1, s2, s3, s4, s5, s6, s7, s8, s9, s10, s11, s12, s13, s14, s15⟩
    go_simp
    with_reducible rfl
  rotate_left
  · simp only [Act.put, List.setIfInBounds_toArray, List.set_cons_zero, List.set_cons_succ, i64_w, i32_w]
    rfl
  refine take_ (i := 13) (N := some 42) (v := ?_) (a' := ?_) #[true, true, true, true, true, true, true, true, true, true, true, false, true, true, false, false, false, false] rfl rfl (by kernel_rfl) (fun _ _ _ h => h) (Or.inl ⟨by rfl, ?_⟩) hHeld ?_ ?_
  rotate_left
  · rintro w' ⟨s0, s1, s2, s3, s4, s5, s6, s7, s8, s9, s10, s11, s12, s13, s14, s15⟩
    go_simp
    with_reducible rfl
  rotate_left
  · simp only [Act.put, List.setIfInBounds_toArray, List.set_cons_zero, List.set_cons_succ, i64_w, i32_w]
    rfl
  refine one_ (i := 11) (N := some 40) #[true, true, true, true, true, true, true, true, true, true, true, true, true, true, false, false, false, false] rfl rfl (by kernel_rfl) (by decide) (fun K hK => ?_)
  refine goes_ Tryd.func23 (by kernel_rfl) rfl #[.slice (some ⟨g0, 0, none⟩) s.length d0, .agg #[.int .i64 t.f0, .int .i64 t.f1, .string t.f2, .string nm, .slice (some ⟨g1, 0, none⟩) l.length d1]] (by rfl) rfl rfl (by simp only [List.map_toArray, List.map_cons, List.map_nil]; rfl) ?_
  with_reducible refine (term_Apply.calls (s.length + l.length + 2) (some ⟨g0, 0, none⟩) d0 s t.f0 t.f1 t.f2 nm (some ⟨g1, 0, none⟩) d1 l b.f0 b.f1 b.f2 nm m _ (C_front (R_C' I5.out.own)) (by have := R_room I5.out.own (by simp); simp at this; omega) (C_front (R_C' I5.out.x)) (by have := R_room I5.out.x (by simp); simp at this; omega) (Laid2.up HP.out.2.2.1 I5.out.below) (by rw [apply_f s t nm l HP.out.2.2.2.2.2.1 HP.out.2.2.2.2.2.2 _ (Nat.le_refl _), HBM.out.1, HBM.out.2.1])).mono ?_
  rintro e w6 ⟨va, rfl, hRa, hb⟩
  refine ⟨_, rfl, ?_⟩
  obtain ⟨Aa, ca, rfl⟩ := Kd.R_slice hRa
  have I6 := Aside0.mk (I5.out.up hb)
  have RA := Aside0.mk hRa
  have hd0 := cell_up hc0 hb
  have hd1 := cell_up hc1 hb
  have hd2 := cell_up hc2 hb
  have hd3 := cell_up hc3 hb
  have hd4 := cell_up hc4 hb
  have hd5 := cell_up hc5 hb
  have hd6 := cell_up hc6 hb
  have hd7 := cell_up hc7 hb
  have hd8 := cell_up hc8 hb
  have hd9 := cell_up hc9 hb
  have hd10 := cell_up hc10 hb
  have hd11 := cell_up hc11 hb
  have hd12 := cell_up hc12 hb
  have hd13 := cell_up hc13 hb
  have hd14 := cell_up hc14 hb
  have hd15 := cell_up hc15 hb
  clear hRa hb
  refine hK.out _ _ ⟨hd0, hd1, hd2, hd3, hd4, hd5, hd6, hd7, hd8, hd9, hd10, hd11, hd12, hd13, hd14, hd15⟩ (fun hHeld => ?_)
  clear hK K
  refine norm_ (a' := ?_) ?_ ?_
  rotate_left
  · show Act.put _ (some 40) _ = _
    simp only [Act.put, List.setIfInBounds_toArray, List.set_cons_zero, List.set_cons_succ, i64_w, i32_w]
    rfl
  refine one_ (i := 14) (N := some 43) #[true, true, true, true, true, true, true, true, true, true, true, true, true, true, true, false, false, false] rfl rfl (by kernel_rfl) (by decide) (fun K hK => ?_)
  refine goes_ Tryd.func24 (by kernel_rfl) rfl #[.slice A0 s.length c0, .agg #[.int .i64 t.f0, .int .i64 t.f1, .string t.f2, .string nm, .slice A1 l.length c1]] (by rfl) rfl rfl (by simp only [List.map_toArray, List.map_cons, List.map_nil]; rfl) ?_
  with_reducible refine (hearsayref02_Apply.calls (s.length + l.length + 2) A0 c0 s t.f0 t.f1 t.f2 nm A1 c1 l b.f0 b.f1 b.f2 nm m _ (Kd.C_below HP.out.1.1 I6.out.below) HP.out.1.2 (Kd.C_below HP.out.2.1.1 I6.out.below) HP.out.2.1.2 (by rw [rapply_f s t nm l HP.out.2.2.2.2.2.1 HP.out.2.2.2.2.2.2 _ (Nat.le_refl _), HBM.out.1, HBM.out.2.1])).mono ?_
  rintro e w7 ⟨vb, rfl, hRb, hb⟩
  refine ⟨_, rfl, ?_⟩
  obtain ⟨Ab, cb, rfl⟩ := Kd.R_slice hRb
  have I7 := Aside0.mk (I6.out.up hb)
  have RA7 := Aside0.mk (Kd.R_below RA.out hb)
  have RB7 := Aside0.mk hRb
  have he0 := cell_up hd0 hb
  have he1 := cell_up hd1 hb
  have he2 := cell_up hd2 hb
  have he3 := cell_up hd3 hb
  have he4 := cell_up hd4 hb
  have he5 := cell_up hd5 hb
  have he6 := cell_up hd6 hb
  have he7 := cell_up hd7 hb
  have he8 := cell_up hd8 hb
  have he9 := cell_up hd9 hb
  have he10 := cell_up hd10 hb
  have he11 := cell_up hd11 hb
  have he12 := cell_up hd12 hb
  have he13 := cell_up hd13 hb
  have he14 := cell_up hd14 hb
  have he15 := cell_up hd15 hb
  clear hRb hb
  refine hK.out _ _ ⟨he0, he1, he2, he3, he4, he5, he6, he7, he8, he9, he10, he11, he12, he13, he14, he15⟩ (fun hHeld => ?_)
  clear hK K
  refine norm_ (a' := ?_) ?_ ?_
  rotate_left
  · show Act.put _ (some 43) _ = _
    simp only [Act.put, List.setIfInBounds_toArray, List.set_cons_zero, List.set_cons_succ, i64_w, i32_w]
    rfl
  refine one_ (i := 15) (N := some 44) #[true, true, true, true, true, true, true, true, true, true, true, true, true, true, true, true, false, false] rfl rfl (by kernel_rfl) (by decide) (fun K hK => ?_)
  refine goes_ Tryd.func22 (by kernel_rfl) rfl #[.agg #[.int .i64 b.f0, .int .i64 b.f1, .string b.f2, .string nm, .slice Aa m.length ca], .agg #[.int .i64 b.f0, .int .i64 b.f1, .string b.f2, .string nm, .slice Ab m.length cb]] (by rfl) rfl rfl (by simp only [List.map_toArray, List.map_cons, List.map_nil]; rfl) ?_
  with_reducible refine (hearsaylaw02_same.calls (m.length + 1) b.f0 b.f1 b.f2 nm Aa ca m b.f0 b.f1 b.f2 nm Ab cb m true _ (R_C' RA7.out) (R_cap RA7.out) (R_C' RB7.out) (R_cap RB7.out) (same_self b nm m (by rw [HBM.out.2.2]; exact HP.out.2.2.2.2.2.2) _ (Nat.le_refl _))).mono ?_
  rintro e w8 ⟨rfl, hb⟩
  refine ⟨_, rfl, ?_⟩
  have I8 := Aside0.mk (I7.out.up hb)
  have hf0 := cell_up he0 hb
  have hf1 := cell_up he1 hb
  have hf2 := cell_up he2 hb
  have hf3 := cell_up he3 hb
  have hf4 := cell_up he4 hb
  have hf5 := cell_up he5 hb
  have hf6 := cell_up he6 hb
  have hf7 := cell_up he7 hb
  have hf8 := cell_up he8 hb
  have hf9 := cell_up he9 hb
  have hf10 := cell_up he10 hb
  have hf11 := cell_up he11 hb
  have hf12 := cell_up he12 hb
  have hf13 := cell_up he13 hb
  have hf14 := cell_up he14 hb
  have hf15 := cell_up he15 hb
  clear hb
  refine hK.out _ _ ⟨hf0, hf1, hf2, hf3, hf4, hf5, hf6, hf7, hf8, hf9, hf10, hf11, hf12, hf13, hf14, hf15⟩ (fun hHeld => ?_)
  clear hK K
  refine norm_ (a' := ?_) ?_ ?_
  rotate_left
  · show Act.put _ (some 44) _ = _
    simp only [Act.put, List.setIfInBounds_toArray, List.set_cons_zero, List.set_cons_succ, i64_w, i32_w]
    rfl
  refine pure_ (i := 16) (N := some 45) (v := ?_) (a' := ?_) #[true, true, true, true, true, true, true, true, true, true, true, true, true, true, true, true, true, false] rfl rfl (by kernel_rfl) (fun _ _ _ h => h) (Or.inl ⟨by rfl, ?_⟩) ?_ ?_
  rotate_left
  · intro w'
    go_simp
    with_reducible rfl
  rotate_left
  · simp only [Act.put, List.setIfInBounds_toArray, List.set_cons_zero, List.set_cons_succ, i64_w, i32_w]
    rfl
  refine pure_ (i := 17) (N := some 46) (v := ?_) (a' := ?_) #[true, true, true, true, true, true, true, true, true, true, true, true, true, true, true, true, true, true] rfl rfl (by kernel_rfl) (fun _ _ _ h => h) (Or.inl ⟨by rfl, ?_⟩) ?_ ?_
  rotate_left
  · intro w'
    go_simp
    with_reducible rfl
  rotate_left
  · simp only [Act.put, List.setIfInBounds_toArray, List.set_cons_zero, List.set_cons_succ, i64_w, i32_w]
    rfl
  refine done_ (by kernel_rfl) ?_
  clear hc0 hc1 hc2 hc3 hc4 hc5 hc6 hc7 hc8 hc9 hc10 hc11 hc12 hc13 hc14 hc15 hd0 hd1 hd2 hd3 hd4 hd5 hd6 hd7 hd8 hd9 hd10 hd11 hd12 hd13 hd14 hd15 he0 he1 he2 he3 he4 he5 he6 he7 he8 he9 he10 he11 he12 he13 he14 he15 hf0 hf1 hf2 hf3 hf4 hf5 hHeld
  go_wp2_with (first
    | (go_at_call 17; refine (still_calls g0 d0 A0 c0 s _ w.heap.size I8.out.own (Kd.C_below HP.out.1.1 I8.out.below) HP.out.1.2 (Laid0.up HP.out.2.2.2.1 I8.out.below) HP.out.2.2.2.2.2.1).mono ?_; rintro e w9 ⟨rfl, hb⟩; have I9 := Aside0.mk (I8.out.up hb); have hg6 := cell_up hf6 hb; have hg7 := cell_up hf7 hb; have hg8 := cell_up hf8 hb; have hg9 := cell_up hf9 hb; have hg10 := cell_up hf10 hb; have hg11 := cell_up hf11 hb; have hg12 := cell_up hf12 hb; have hg13 := cell_up hf13 hb; have hg14 := cell_up hf14 hb; have hg15 := cell_up hf15 hb; clear hf6 hf7 hf8 hf9 hf10 hf11 hf12 hf13 hf14 hf15 hb)
    | (go_at_call 18; refine (kept_calls t nm g1 d1 A1 c1 l _ w.heap.size I9.out.x (Kd.C_below HP.out.2.1.1 I9.out.below) HP.out.2.1.2 (Laid1.up HP.out.2.2.2.2.1 I9.out.below) HP.out.2.2.2.2.2.2).mono ?_; rintro e w10 ⟨rfl, hb⟩; have I10 := Aside0.mk (I9.out.up hb); clear hb)
    | (go_at_call 19; refine (hearsaylaw02_first.calls true _ first_f).mono ?_; rintro e w11 ⟨rfl, hb⟩; have I11 := Aside0.mk (I10.out.up hb); clear hb)
    | go_in)
  go_ret
  exact ⟨rfl, I11.out.below⟩
end Go.Proofs.YtnomgmlfagiffaaDoor.T
