/- T4; GSorted: texts of this claim, laid together. -/
import Derived.Test.YtnomgmlfagiffaaM0Sd
import Derived.OwnWalk
import Derived.WalkKit
-- By a program of this session (wip/tools/myprint.py), out of the translation.
namespace Go.Proofs.Ytnomgmlfagiffaa.T
open Go.RowKit Go.Proofs.YtnomgmlfagiffaaW.PrintWords Go.Proofs.YtnomgmlfagiffaaW.PrintLast Go.Proofs.YtnomgmlfagiffaaW.PrintMore
attribute [local go_sem] max2_int min2_int max_two min_two max_three min_three max_four min_four   -- for this text's walks alone
set_option linter.unusedVariables false
set_option linter.unusedSimpArgs false

def term_places.f (a0_0 : Int) (a0_1 : Int) (a0_2 : ByteArray) (a0_3 : ByteArray) (l0_4 : List (S23)) : Option ((List (S23))) := (some (([(⟨a0_0, a0_1, a0_2⟩ : S23)] : List (S23)) : List (S23))).bind fun y130 => (if y130.length + l0_4.length < 4398046511104 then (some (y130 ++ l0_4)) else (none))
set_option maxHeartbeats 8000000 in
set_option maxRecDepth 100000 in
theorem term_places.calls (a0_0 : Int) (a0_1 : Int) (a0_2 : ByteArray) (a0_3 : ByteArray) (A0_4 : Option Addr) (c0_4 : Nat) (l0_4 : List (S23)) (r : List (S23)) (w : World) (hr0_4 : Kd.C k23 w A0_4 l0_4.length l0_4) (hc0_4 : l0_4.length ≤ c0_4) (h : term_places.f a0_0 a0_1 a0_2 a0_3 l0_4 = some r) :
    Calls Try.prog 28 #[.agg #[.int .i64 a0_0, .int .i64 a0_1, .string a0_2, .string a0_3, .slice A0_4 l0_4.length c0_4]] w fun e w' => ∃ v0_ : Value, e = .returned (v0_) ∧ Kd.R k23 23 w' w.heap.size (fun _ => True) v0_ r ∧ Below w.heap.size w w' := by
  have hu30 := Try.underlying30
  have hu23 := Try.underlying23
  have HR0_4 := Aside0.mk hr0_4
  have HC0_4 := Aside0.mk hc0_4
  clear hr0_4 hc0_4
  have HB := Aside0.mk (Below.refl w.heap.size w)
  have H : ((some (([(⟨a0_0, a0_1, a0_2⟩ : S23)] : List (S23)) : List (S23))).bind fun y130 => (if y130.length + l0_4.length < 4398046511104 then (some (y130 ++ l0_4)) else (none))) = some r := h
  clear h
  obtain ⟨y130, hy130⟩ : ∃ y_ : List (S23), y_ = (([(⟨a0_0, a0_1, a0_2⟩ : S23)] : List (S23))) := ⟨_, rfl⟩
  replace H : (if y130.length + l0_4.length < 4398046511104 then (some (y130 ++ l0_4)) else (none)) = some r := by first | (rw [hy130]; with_reducible exact H) | (have H2_ := (Option.bind_some _ _).symm.trans H; rw [hy130]; with_reducible exact H2_) | (have H2_ := (Option.bind_some _ _).symm.trans H; with_reducible exact H2_) | with_reducible exact H | (rw [hy130]; exact H) | exact H
  have Ny130 := Aside0.mk hy130
  clear hy130
  by_cases c2 : y130.length + l0_4.length < 4398046511104
  · rw [if_pos c2] at H
    have LMc2 := Aside0.mk c2
    clear c2
    obtain ⟨y133, hy133⟩ : ∃ y_ : List (S23), y_ = (y130 ++ l0_4) := ⟨_, rfl⟩
    replace H : (some y133) = some r := by first | (rw [hy133]; with_reducible exact H) | (have H2_ := (Option.bind_some _ _).symm.trans H; rw [hy133]; with_reducible exact H2_) | (have H2_ := (Option.bind_some _ _).symm.trans H; with_reducible exact H2_) | with_reducible exact H | (rw [hy133]; exact H) | exact H
    have Ny133 := Aside0.mk hy133
    clear hy133
    obtain rfl := Option.some.inj H
    go_enter Try.func28, Try.ntmps28
    go_wp2_with (first | ((with_reducible refine gate_dst (N := 1) rfl ?_); refine box_event ?hg (N := 1) ?hd (cs := #[.int .i64 a0_0, .int .i64 a0_1, .string a0_2, .string a0_3, .slice A0_4 l0_4.length c0_4]) (t := 30) ?hr ?_; (case hd => rfl); (case hg => rfl); (case hr => first | (go_simp; done) | (go_simp; rfl)); intro gb129 hg w3 hbox hb; have n0_ := Aside0.mk (below_step (by repeat (first | (with_reducible first | exact HB.out | apply below_alloc | apply pw_below_drewN | apply below_drew1) | exact HB.out)) hb); have n1_ := Aside0.mk (hbox); have n2_ := Aside0.mk ((by rw [hg]; exact (below_size (by repeat (first | (with_reducible first | exact HB.out | apply below_alloc | apply pw_below_drewN | apply below_drew1) | exact HB.out))) : w.heap.size ≤ gb129)); have n3_ := Aside0.mk ((by rw [hg]; exact (below_size (by repeat (first | (with_reducible first | exact HB.out | apply below_alloc | apply pw_below_drewN | apply below_drew1) | exact HB.out))) : w.heap.size ≤ gb129)); clear HB; have HB := n0_; have BK129 := n1_; have GW129 := n2_; have GE129 := n3_; clear n0_ n1_ n2_ n3_; clear hb hbox hg; have hcz4_0 : w3.cell? ⟨gb129, 0, none⟩ = some (.int .i64 a0_0) := (blk_cell BK129.out 0).trans rfl; have hcz4_1 : w3.cell? ⟨gb129, 1, none⟩ = some (.int .i64 a0_1) := (blk_cell BK129.out 1).trans rfl; have hcz4_2 : w3.cell? ⟨gb129, 2, none⟩ = some (.string a0_2) := (blk_cell BK129.out 2).trans rfl; have hcz4_3 : w3.cell? ⟨gb129, 3, none⟩ = some (.string a0_3) := (blk_cell BK129.out 3).trans rfl; have hcz4_4 : w3.cell? ⟨gb129, 4, none⟩ = some (.slice A0_4 l0_4.length c0_4) := (blk_cell BK129.out 4).trans rfl; have hfz4_0 := blk_frozen BK129.out 0; have hfz4_1 := blk_frozen BK129.out 1; have hfz4_2 := blk_frozen BK129.out 2; have hfz4_3 := blk_frozen BK129.out 3; have hfz4_4 := blk_frozen BK129.out 4) | ((with_reducible refine gate_dst (N := 5) rfl ?_); refine Kd.R_lit k23 _ 23 ?hg (N := 5) ?hd (xs := ([(⟨a0_0, a0_1, a0_2⟩ : S23)] : List (S23))) (inner := [.int .i64 a0_0, .int .i64 a0_1, .string a0_2]) (ok := fun _ => True) (okp := fun _ => True) ?hr ?hp (fun _ hk => hk) trivial (Below.refl _ _) (Nat.le_refl _) (by simp) ?_; (case hd => rfl); (case hg => rfl); (case hr => first | (go_simp; done) | (go_simp; rfl)); (case hp => exact (Reps.c3 (show Kd.M k23 _ _ _ (⟨a0_0, a0_1, a0_2⟩ : S23) [.int .i64 a0_0, .int .i64 a0_1, .string a0_2] from (k23_mkM _ _ _ (⟨a0_0, a0_1, a0_2⟩ : S23) )) (Reps.none _ _))); intro v131 w5 ho6 hb hg_ hnew_; clear hg_ hnew_; (first | rw [← Ny130.out] at ho6 | (simp only [Int.reduceToNat] at ho6; rw [← Ny130.out] at ho6)); have n0_ := Aside0.mk (Kd.R_lower ho6 (below_size (by repeat (first | (with_reducible first | exact HB.out | apply below_alloc | apply pw_below_drewN | apply below_drew1 | refine below_set ?_ GE129.out) | exact HB.out)))); have n1_ := Aside0.mk (blk_below (g := gb129) (o := .cells #[.int .i64 a0_0, .int .i64 a0_1, .string a0_2, .string a0_3, .slice A0_4 l0_4.length c0_4] 30 (0, 0)) (by (with_reducible repeat (first | refine blk_drewN ?_ _ | refine blk_drew ?_ | refine blk_alloc ?_ _)); exact BK129.out) hb); have n2_ := Aside0.mk (below_step (by repeat (first | (with_reducible first | exact HB.out | apply below_alloc | apply pw_below_drewN | apply below_drew1 | refine below_set ?_ GE129.out) | exact HB.out)) hb); clear BK129; clear HB; have HO132 := n0_; have BK129 := n1_; have HB := n2_; clear n0_ n1_ n2_; clear hb ho6; have hcz7_0 : w5.cell? ⟨gb129, 0, none⟩ = some (.int .i64 a0_0) := (blk_cell BK129.out 0).trans rfl; have hcz7_1 : w5.cell? ⟨gb129, 1, none⟩ = some (.int .i64 a0_1) := (blk_cell BK129.out 1).trans rfl; have hcz7_2 : w5.cell? ⟨gb129, 2, none⟩ = some (.string a0_2) := (blk_cell BK129.out 2).trans rfl; have hcz7_3 : w5.cell? ⟨gb129, 3, none⟩ = some (.string a0_3) := (blk_cell BK129.out 3).trans rfl; have hcz7_4 : w5.cell? ⟨gb129, 4, none⟩ = some (.slice A0_4 l0_4.length c0_4) := (blk_cell BK129.out 4).trans rfl; have hfz7_0 := blk_frozen BK129.out 0; have hfz7_1 := blk_frozen BK129.out 1; have hfz7_2 := blk_frozen BK129.out 2; have hfz7_3 := blk_frozen BK129.out 3; have hfz7_4 := blk_frozen BK129.out 4) | ((with_reducible refine gate_builtin (b := .append) (xs := #[.tmp 5, .tmp 7]) rfl ?_); at_builtin; refine Kd.R_append_rows k23 (w0 := w) w.heap.size rfl (.tmp 5) (.tmp 7) 28 23 (.agg #[(.int .i64 0), (.int .i64 0), (.string ⟨#[]⟩)]) 32 rfl Try.underlying28 info23 rfl (by decide) (by omega) v131 y130 l0_4 _ _ _ (fun _ => True) (fun _ => False) rfl rfl ?aO ?aR (fun _ _ h => h) (fun _ h => h.elim) ?aF ?aB ?aS ?aL ?_; (case aR => repeat (first | exact (Kd.C_below HR0_4.out HB.out) | (with_reducible refine Kd.C_alloc ?_ _) | (with_reducible refine Kd.C_drewN ?_ _) | (with_reducible refine Kd.C_drew ?_))); (case aB => exact (by repeat (first | (with_reducible first | exact HB.out | apply below_alloc | apply pw_below_drewN | apply below_drew1 | refine below_set ?_ GE129.out) | exact HB.out))); (case aF => exact (fun _ _ => trivial)); (case aO => exact (by (with_reducible repeat (first | apply Kd.R_alloc | apply Kd.R_drewN | apply Kd.R_drew)); exact HO132.out)); (case aS => exact (below_size (by repeat (first | (with_reducible first | exact HB.out | apply below_alloc | apply pw_below_drewN | apply below_drew1 | refine below_set ?_ GE129.out) | exact HB.out)))); (case aL => have := LMc2.out; omega); intro v134 w8 ho hb hg hat; rw [← Ny133.out] at ho; have n0_ := Aside0.mk (blk_grown (g := gb129) (o := .cells #[.int .i64 a0_0, .int .i64 a0_1, .string a0_2, .string a0_3, .slice A0_4 l0_4.length c0_4] 30 (0, 0)) (by (with_reducible repeat (first | refine blk_drewN ?_ _ | refine blk_drew ?_ | refine blk_alloc ?_ _)); exact BK129.out) hg (Kd.R_ne HO132.out BK129.out (by decide))); have n1_ := Aside0.mk (hb); have n2_ := Aside0.mk (ho); clear BK129; clear HB; clear HO132; have BK129 := n0_; have HB := n1_; have HO135 := n2_; clear n0_ n1_ n2_; clear ho hb hg hat))
    go_ret
    exact ⟨_, by first | rfl | (simp [errW_none, errW_some] <;> rfl) | (simp [errW_none, errW_some, bne, show ∀ l_ : List UInt8, (l_ == []) = l_.isEmpty from fun l_ => by cases l_ <;> rfl]; done) | (simp [*, errW_none, errW_some] <;> rfl), by (with_reducible repeat (first | apply Kd.R_alloc | apply Kd.R_drewN | apply Kd.R_drew)); exact HO135.out, by repeat (first | (with_reducible first | exact HB.out | apply below_alloc | apply pw_below_drewN | apply below_drew1 | refine below_set ?_ GE129.out) | exact HB.out)⟩
  · rw [if_neg c2] at H
    exact absurd H (by simp)

-- NOT PRINTED: function 39 (api_Bind_39)

-- NOT PRINTED: function 49 (api_Bind_49)

-- NOT PRINTED: function 40 (api_Bind_40)

-- NOT PRINTED: function 47 (bits_Len32)

-- NOT PRINTED: function 48 (bits_Len64)

-- NOT PRINTED: function 38 (bits_Len)

-- NOT PRINTED: function 50 (slices_nextPowerOfTwo)

-- NOT PRINTED: function 51 (slices_xorshift_Next)

-- NOT PRINTED: function 41 (api_Bind_41)

-- NOT PRINTED: function 54 (api_Bind_54)

-- NOT PRINTED: function 53 (api_Bind_53)

-- NOT PRINTED: function 52 (api_Bind_52)

-- NOT PRINTED: function 42 (api_Bind_42)

-- NOT PRINTED: function 43 (api_Bind_43)

-- NOT PRINTED: function 44 (api_Bind_44)

-- NOT PRINTED: function 45 (api_Bind_45)

-- NOT PRINTED: function 46 (api_Bind_46)

-- NOT PRINTED: function 37 (api_Bind_37)

-- NOT PRINTED: function 34 (api_Bind_34)

-- NOT PRINTED: function 31 (term_sorted)

end Go.Proofs.Ytnomgmlfagiffaa.T
/- The walk of term.sorted. -/
set_option linter.unusedVariables false
namespace Go.Proofs.Ytnomgmlfagiffaa.T
open Go.RowKit Go.Maps Go.Proofs.YtnomgmlfagiffaaW.PrintWords Go.Proofs.YtnomgmlfagiffaaW.PrintLast
theorem R_shape {w : World} {base : Nat} {ok : Nat → Prop} {v : Value} {l : List Bd} (h : Kd.R k46 46 w base ok v l) {g : Nat} (hg : v.ownBlock = some g) : ∃ c, v = .slice (some ⟨g, 0, none⟩) l.length c ∧ base ≤ g := by
  obtain ⟨_, inner, ho, _⟩ := h
  rcases ho.2 with ⟨rfl, _⟩ | ⟨g', cap, cur, rfl, hb, _⟩
  · cases hg
  · cases hg
    exact ⟨cap, rfl, hb⟩
set_option maxHeartbeats 4000000 in
set_option maxRecDepth 100000 in
theorem term_sorted.calls (b n : Nat) (m : List Bd) (w : World) (hm : w.ownsMap Try.prog 3 RT b n (mapD m)) (hr : Rising m) (hlen : m.length < 3298534883328) :
    Calls Try.prog 31 #[.map (some b)] w fun e w' => ∃ v, e = .returned v ∧ Kd.R k46 46 w' w.heap.size (fun _ => True) v m ∧ Below w.heap.size w w' := by
  obtain ⟨i0, hi, hz0, hz1, hz2⟩ := info_parts info46
  have hsz : Maps.size (mapD m) = m.length := by simp [mapD, Maps.size]
  have hml : m.length ≤ maxLen := by simp [maxLen]; omega
  have hu1 := Try.underlying46
  have hu2 := Try.underlying23
  have hlt := hm.lt
  go_enter Try.func31, Try.ntmps31
  go_wp2_with (first
    | (at_len; refine wpList_len_own _ rfl _ 53 rfl 3 23 Try.underlying53 _ b n _ rfl hm ?_; rw [hsz])
    | (at_make; refine wpList_make_own _ rfl _ _ 37 rfl w.heap.size 46 i0 _ 4 Try.underlying37 hi hz0 hz1 .i64 .i64 _ m.length rfl rfl rfl (by rw [hz2]; omega) hml (Nat.le_refl _) ?_; intro w1 hown1 hg1)
    | (at_range; refine wpList_range_own _ rfl _ 53 rfl 3 23 lawI Try.underlying53 _ b n _ rfl (hm.kept hg1 (by simp)) ?_; intro w0 hrg0 hg0 hs0)
    | go_in)
  go_frame
  have hb1 : Below w.heap.size w w1 := (Below.refl _ w).grown hg1 (Nat.le_refl _) (fun _ h => by cases h)
  have hb0 : Below w.heap.size w w0 := hb1.grown hg0 hb1.size (fun _ h => by cases h)
  have hR1 : Kd.R k46 46 w0 w.heap.size (fun k => k ≠ w1.heap.size) (.slice (some ⟨w.heap.size, 0, none⟩) 0 m.length) ([] : List Bd) := by
    have h1 : Kd.R k46 46 w1 w.heap.size (fun k => k ≠ w1.heap.size) (.slice (some ⟨w.heap.size, 0, none⟩) 0 m.length) ([] : List Bd) :=
      ⟨fun k hk => by have := hown1.lt k hk; omega, [], hown1, ⟨rfl, fun j p h => by simp at h⟩⟩
    exact Kd.R_grown h1 hg0 (fun k hk => by simp)
  have HR1 := Aside0.mk hR1
  have HB0 := Aside0.mk hb0
  have hw01 : w.heap.size ≤ w1.heap.size := hb1.size
  have HW01 := Aside0.mk hw01
  clear hR1 hb0 hb1 hown1 hg1 hg0 hw01
  go_loopw [3] (fun v3 wr => ∃ (left : Lit → Bool) (cnt : Nat) (l : List Bd), wr.ranges Try.prog 3 RT b w1.heap.size n (mapD m) left cnt ∧ Aside0 (Kd.R k46 46 wr w.heap.size (fun k => k ≠ w1.heap.size) v3 l) ∧ Aside0 (Got m left l) ∧ Aside0 (∃ g, v3.ownBlock = some g) ∧ Aside0 (Below w.heap.size w wr))
    (fun _ wr => wr.rangeLeft b w1.heap.size)
  case atStart => exact ⟨_, _, [], hrg0, HR1, ⟨Got.start m⟩, ⟨⟨_, rfl⟩⟩, HB0⟩
  case round =>
    obtain ⟨left, cnt, l, hrg, HR, HG, HV, HB⟩ := hrel
    clear hrg0
    go_wp2_with (first
      | (at_next; refine wpList_next_ranges _ rfl _ rfl 3 lawI RT (Value.int .i64) encT (fun key kl hkey => by obtain ⟨x, rfl, _⟩ := Maps.keyOf_int_inv Try.underlying3 hkey; exact ⟨x, rfl⟩) (fun v y hv => by obtain ⟨t, rfl, _⟩ := RT_inv hv; exact ⟨t, rfl⟩) b w1.heap.size n _ _ _ rfl hrg ?_ ?_)
      | go_in)
    · intro hc0 hl0
      have hp := HG.out.done hl0
      obtain ⟨g, hg⟩ := HV.out
      obtain ⟨c, rfl, hgb⟩ := R_shape HR.out hg
      have hsort := sortB_calls g c l wr w.heap.size (Kd.R_mono HR.out (fun _ _ => trivial)) (by rw [hp.length_eq]; omega)
      clear hrg
      go_wp2_with (go_at_call 34; refine hsort.mono ?_; rintro e w2 ⟨rfl, hg2, l', hl', hs', hR'⟩)
      go_ret
      obtain rfl := sorted_unique hr hp hl' (hs'.imp fun {a b} h => by first | exact h | (intro h2; omega))
      exact ⟨_, rfl, hR', HB.out.grown hg2 HB.out.size (fun k hk => by cases hk; exact hgb)⟩
    · intro x c kl yd yp w2 cnt1 hkey hlx hy hat hrg1 hlt1 hg2 hs2 hen
      obtain ⟨x', hx', hkl, hwx⟩ := Maps.keyOf_int_inv Try.underlying3 hkey
      cases hx'
      subst hkl
      have hin : (⟨x, c⟩ : Bd) ∈ m := by
        have h1 : yd = .held c := by rw [RT_enc] at hy; injection hy with h; injection h with h _; exact h.symm
        have h2 := hat .nil
        rw [atKey_mapD, h1] at h2
        cases h3 : getM m x with
        | none => rw [h3] at h2; cases h2
        | some t =>
          rw [h3] at h2
          injection h2 with h2
          subst h2
          exact getM_mem h3
      have HG2 : Aside0 (Got m (fun z => left z && !z.sameKey (.int .i64 x)) (l ++ [⟨x, c⟩])) := ⟨HG.out.step hr hlx hin⟩
      have HLN : Aside0 (l.length ≤ m.length) := ⟨HG.out.len⟩
      have HRG := Aside0.mk hrg
      have hne : ∀ k, k ≠ w1.heap.size → some k ≠ some w1.heap.size := fun k hk e => hk (by injection e)
      have HR2 : Aside0 (Kd.R k46 46 w2 w.heap.size (fun k => k ≠ w1.heap.size) u3 l) := ⟨Kd.R_grown HR.out hg2 hne⟩
      have hw1 : w.heap.size ≤ w1.heap.size := HW01.out
      have HB2 : Aside0 (Below w.heap.size w w2) := ⟨HB.out.grown hg2 HB.out.size (fun k hk => by cases hk; exact hw1)⟩
      have HRG1 := Aside0.mk hrg1
      have hM0 := hrg.left_eq
      clear hrg hrg1 HR HB HG hg2 hat hy hlx hne hin hkey hwx
      have HS2 := Aside0.mk hs2
      clear hs2
      simp only [encT] at hen
      go_wp2_with (first
        | ((with_reducible refine gate_builtin (b := .append) (xs := #[.tmp 16, .tmp 20]) rfl ?_); at_builtin; go_loud (refine Kd.R_append k46 (w0 := w) w.heap.size rfl (.tmp 16) (.tmp 20) 37 46 (.agg #[.int .i64 0, .int .i64 0, .int .i64 0, .string ⟨#[]⟩]) 40 rfl Try.underlying37 info46 rfl (by decide) (by omega) u3 l (⟨x, c⟩ : Bd) [.int .i64 x, .int .i64 c.f0, .int .i64 c.f1, .string c.f2] (fun k => k ≠ w1.heap.size) (fun _ => False) rfl ?aX ?aP (fun _ hk => hk.elim) ?aF ?aO ?aB ?aS ?aL ?_; (case aX => first | rfl | (go_simp; done) | (go_simp; rfl)); (case aP => exact k46_mkM _ _ _ (⟨x, c⟩ : Bd)); (case aF => intro k hk; have h1 := HRG1.out.lt; simp at hk; omega); (case aO => exact Kd.R_below HR2.out (below_alloc (Below.refl _ _) _)); (case aB => exact below_alloc HB2.out _); (case aS => exact (below_alloc HB2.out _).size); (case aL => have := HLN.out; omega); intro v1 w3 hR3 hb3 hg3 hat3; have HR3 := Aside0.mk hR3; have HB3 := Aside0.mk hb3; have HG3 := Aside0.mk hg3; have HA3 := Aside0.mk hat3; clear hR3 hb3 hg3 hat3))
        | go_in)
      have hrg3 : w3.ranges Try.prog 3 RT b w1.heap.size n (mapD m) (fun z => left z && !z.sameKey (.int .i64 x)) cnt1 := by
        obtain ⟨g, hg⟩ := HV.out
        refine (HRG1.out.alloc _).kept HG3.out ?_ ?_
        · have hgb : w.heap.size ≤ g := by obtain ⟨c', _, h⟩ := R_shape HR2.out hg; exact h
          rw [hg]; intro e; injection e with e; omega
        · rw [hg]; intro e; injection e with e; exact HR2.out.1 g hg e.symm
      have hv3 : ∃ g, v1.ownBlock = some g := by
        rcases HA3.out with h | ⟨b', h, _⟩
        · obtain ⟨g, hg⟩ := HV.out; exact ⟨g, h.trans hg⟩
        · exact ⟨b', h⟩
      go_roundw
      case rel => exact ⟨_, cnt1, _, hrg3, HR3, HG2, ⟨hv3⟩, HB3⟩
      case measure => rw [hrg3.left_eq, hM0]; exact hlt1
end Go.Proofs.Ytnomgmlfagiffaa.T
