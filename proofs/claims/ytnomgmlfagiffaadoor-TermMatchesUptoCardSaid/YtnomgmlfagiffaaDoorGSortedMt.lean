/- The walk of term.sorted. -/
import Derived.Test.YtnomgmlfagiffaaDoorGMapsMt
import Derived.OwnWalk
import Derived.WalkKit
set_option linter.unusedVariables false
namespace Go.Proofs.YtnomgmlfagiffaaDoor.T
open Go.RowKit Go.Maps Go.Proofs.YtnomgmlfagiffaaDoorW.PrintWords Go.Proofs.YtnomgmlfagiffaaDoorW.PrintLast
theorem R_shape {w : World} {base : Nat} {ok : Nat → Prop} {v : Value} {l : List Bd} (h : Kd.R k44 44 w base ok v l) {g : Nat} (hg : v.ownBlock = some g) : ∃ c, v = .slice (some ⟨g, 0, none⟩) l.length c ∧ base ≤ g := by
  obtain ⟨_, inner, ho, _⟩ := h
  rcases ho.2 with ⟨rfl, _⟩ | ⟨g', cap, cur, rfl, hb, _⟩
  · cases hg
  · cases hg
    exact ⟨cap, rfl, hb⟩
set_option maxHeartbeats 4000000 in
set_option maxRecDepth 100000 in
theorem term_sorted.calls (b n : Nat) (m : List Bd) (w : World) (hm : w.ownsMap Tryd.prog 3 RT b n (mapD m)) (hr : Rising m) (hlen : m.length < 3298534883328) :
    Calls Tryd.prog 51 #[.map (some b)] w fun e w' => ∃ v, e = .returned v ∧ Kd.R k44 44 w' w.heap.size (fun _ => True) v m ∧ Below w.heap.size w w' := by
  obtain ⟨i0, hi, hz0, hz1, hz2⟩ := info_parts info44
  have hsz : Maps.size (mapD m) = m.length := by simp [mapD, Maps.size]
  have hml : m.length ≤ maxLen := by simp [maxLen]; omega
  have hu1 := Tryd.underlying44
  have hu2 := Tryd.underlying23
  have hlt := hm.lt
  go_enter Tryd.func51, Tryd.ntmps51
  go_wp2_with (first
    | (at_len; refine wpList_len_own _ rfl _ 70 rfl 3 23 Tryd.underlying70 _ b n _ rfl hm ?_; rw [hsz])
    | (at_make; refine wpList_make_own _ rfl _ _ 28 rfl w.heap.size 44 i0 _ 4 Tryd.underlying28 hi hz0 hz1 .i64 .i64 _ m.length rfl rfl rfl (by rw [hz2]; omega) hml (Nat.le_refl _) ?_; intro w1 hown1 hg1)
    | (at_range; refine wpList_range_own _ rfl _ 70 rfl 3 23 lawI Tryd.underlying70 _ b n _ rfl (hm.kept hg1 (by simp)) ?_; intro w0 hrg0 hg0 hs0)
    | go_in)
  go_frame
  have hb1 : Below w.heap.size w w1 := (Below.refl _ w).grown hg1 (Nat.le_refl _) (fun _ h => by cases h)
  have hb0 : Below w.heap.size w w0 := hb1.grown hg0 hb1.size (fun _ h => by cases h)
  have hR1 : Kd.R k44 44 w0 w.heap.size (fun k => k ≠ w1.heap.size) (.slice (some ⟨w.heap.size, 0, none⟩) 0 m.length) ([] : List Bd) := by
    have h1 : Kd.R k44 44 w1 w.heap.size (fun k => k ≠ w1.heap.size) (.slice (some ⟨w.heap.size, 0, none⟩) 0 m.length) ([] : List Bd) :=
      ⟨fun k hk => by have := hown1.lt k hk; omega, [], hown1, ⟨rfl, fun j p h => by simp at h⟩⟩
    exact Kd.R_grown h1 hg0 (fun k hk => by simp)
  have HR1 := Aside0.mk hR1
  have HB0 := Aside0.mk hb0
  have hw01 : w.heap.size ≤ w1.heap.size := hb1.size
  have HW01 := Aside0.mk hw01
  clear hR1 hb0 hb1 hown1 hg1 hg0 hw01
  go_loopw [3] (fun v3 wr => ∃ (left : Lit → Bool) (cnt : Nat) (l : List Bd), wr.ranges Tryd.prog 3 RT b w1.heap.size n (mapD m) left cnt ∧ Aside0 (Kd.R k44 44 wr w.heap.size (fun k => k ≠ w1.heap.size) v3 l) ∧ Aside0 (Got m left l) ∧ Aside0 (∃ g, v3.ownBlock = some g) ∧ Aside0 (Below w.heap.size w wr))
    (fun _ wr => wr.rangeLeft b w1.heap.size)
  case atStart => exact ⟨_, _, [], hrg0, HR1, ⟨Got.start m⟩, ⟨⟨_, rfl⟩⟩, HB0⟩
  case round =>
    obtain ⟨left, cnt, l, hrg, HR, HG, HV, HB⟩ := hrel
    clear hrg0
    go_wp2_with (first
      | (at_next; refine wpList_next_ranges _ rfl _ rfl 3 lawI RT (Value.int .i64) encT (fun key kl hkey => by obtain ⟨x, rfl, _⟩ := Maps.keyOf_int_inv Tryd.underlying3 hkey; exact ⟨x, rfl⟩) (fun v y hv => by obtain ⟨t, rfl, _⟩ := RT_inv hv; exact ⟨t, rfl⟩) b w1.heap.size n _ _ _ rfl hrg ?_ ?_)
      | go_in)
    · intro hc0 hl0
      have hp := HG.out.done hl0
      obtain ⟨g, hg⟩ := HV.out
      obtain ⟨c, rfl, hgb⟩ := R_shape HR.out hg
      have hsort := sortB_calls g c l wr w.heap.size (Kd.R_mono HR.out (fun _ _ => trivial)) (by rw [hp.length_eq]; omega)
      clear hrg
      go_wp2_with (go_at_call 82; refine hsort.mono ?_; rintro e w2 ⟨rfl, hg2, l', hl', hs', hR'⟩)
      go_ret
      obtain rfl := sorted_unique hr hp hl' (hs'.imp fun {a b} h => by first | exact h | (intro h2; omega))
      exact ⟨_, rfl, hR', HB.out.grown hg2 HB.out.size (fun k hk => by cases hk; exact hgb)⟩
    · intro x c kl yd yp w2 cnt1 hkey hlx hy hat hrg1 hlt1 hg2 hs2 hen
      obtain ⟨x', hx', hkl, hwx⟩ := Maps.keyOf_int_inv Tryd.underlying3 hkey
      cases hx'
      subst hkl
      have hin : (⟨x, c⟩ : Bd) ∈ m := by
        have h1 : yd = .held c := by rw [RT_enc] at hy; injection hy with h; injection h with h _; exact h.symm
        have h2 := hat .nil
        rw [atKey_mapD, h1] at h2
        cases h3 : getM m x with
        | none => rw [h3] at h2; cases h2
        | some t =>
          rw [h3] at h2
          injection h2 with h2
          subst h2
          exact getM_mem h3
      have HG2 : Aside0 (Got m (fun z => left z && !z.sameKey (.int .i64 x)) (l ++ [⟨x, c⟩])) := ⟨HG.out.step hr hlx hin⟩
      have HLN : Aside0 (l.length ≤ m.length) := ⟨HG.out.len⟩
      have HRG := Aside0.mk hrg
      have hne : ∀ k, k ≠ w1.heap.size → some k ≠ some w1.heap.size := fun k hk e => hk (by injection e)
      have HR2 : Aside0 (Kd.R k44 44 w2 w.heap.size (fun k => k ≠ w1.heap.size) u3 l) := ⟨Kd.R_grown HR.out hg2 hne⟩
      have hw1 : w.heap.size ≤ w1.heap.size := HW01.out
      have HB2 : Aside0 (Below w.heap.size w w2) := ⟨HB.out.grown hg2 HB.out.size (fun k hk => by cases hk; exact hw1)⟩
      have HRG1 := Aside0.mk hrg1
      have hM0 := hrg.left_eq
      clear hrg hrg1 HR HB HG hg2 hat hy hlx hne hin hkey hwx
      have HS2 := Aside0.mk hs2
      clear hs2
      simp only [encT] at hen
      go_wp2_with (first
        | ((with_reducible refine gate_builtin (b := .append) (xs := #[.tmp 16, .tmp 20]) rfl ?_); at_builtin; go_loud (refine Kd.R_append k44 (w0 := w) w.heap.size rfl (.tmp 16) (.tmp 20) 28 44 (.agg #[.int .i64 0, .int .i64 0, .int .i64 0, .string ⟨#[]⟩]) 40 rfl Tryd.underlying28 info44 rfl (by decide) (by omega) u3 l (⟨x, c⟩ : Bd) [.int .i64 x, .int .i64 c.f0, .int .i64 c.f1, .string c.f2] (fun k => k ≠ w1.heap.size) (fun _ => False) rfl ?aX ?aP (fun _ hk => hk.elim) ?aF ?aO ?aB ?aS ?aL ?_; (case aX => first | rfl | (go_simp; done) | (go_simp; rfl)); (case aP => exact k44_mkM _ _ _ (⟨x, c⟩ : Bd)); (case aF => intro k hk; have h1 := HRG1.out.lt; simp at hk; omega); (case aO => exact Kd.R_below HR2.out (below_alloc (Below.refl _ _) _)); (case aB => exact below_alloc HB2.out _); (case aS => exact (below_alloc HB2.out _).size); (case aL => have := HLN.out; omega); intro v1 w3 hR3 hb3 hg3 hat3; have HR3 := Aside0.mk hR3; have HB3 := Aside0.mk hb3; have HG3 := Aside0.mk hg3; have HA3 := Aside0.mk hat3; clear hR3 hb3 hg3 hat3))
        | go_in)
      have hrg3 : w3.ranges Tryd.prog 3 RT b w1.heap.size n (mapD m) (fun z => left z && !z.sameKey (.int .i64 x)) cnt1 := by
        obtain ⟨g, hg⟩ := HV.out
        refine (HRG1.out.alloc _).kept HG3.out ?_ ?_
        · have hgb : w.heap.size ≤ g := by obtain ⟨c', _, h⟩ := R_shape HR2.out hg; exact h
          rw [hg]; intro e; injection e with e; omega
        · rw [hg]; intro e; injection e with e; exact HR2.out.1 g hg e.symm
      have hv3 : ∃ g, v1.ownBlock = some g := by
        rcases HA3.out with h | ⟨b', h, _⟩
        · obtain ⟨g, hg⟩ := HV.out; exact ⟨g, h.trans hg⟩
        · exact ⟨b', h⟩
      go_roundw
      case rel => exact ⟨_, cnt1, _, hrg3, HR3, HG2, ⟨hv3⟩, HB3⟩
      case measure => rw [hrg3.left_eq, hM0]; exact hlt1
end Go.Proofs.YtnomgmlfagiffaaDoor.T
