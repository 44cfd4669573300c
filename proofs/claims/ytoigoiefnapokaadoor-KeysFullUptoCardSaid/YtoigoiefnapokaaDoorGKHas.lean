/- (*keys.Ring).Has; what Enroll refuses. -/
import Derived.Test.YtoigoiefnapokaaDoorGKEnd
set_option linter.unusedVariables false
set_option linter.unusedSimpArgs false
namespace Go.Proofs.YtoigoiefnapokaaDoor.T
open Go.RowKit Go.Maps Go.MuLone Go.Proofs.YtoigoiefnapokaaDoorW.PrintWords Go.Proofs.YtoigoiefnapokaaDoorW.PrintLast
set_option maxHeartbeats 8000000 in
set_option maxRecDepth 100000 in
theorem enroll_bad (w : World) (x : RV) (base : Nat) (hx : x.At w base 0) (s : ByteArray) (hs : s.size = 0 ∨ 64 < s.size) :
    Calls Tryd.prog 14 #[.pointer (some ⟨x.b, 0, none⟩), .string s] w fun e w' => e = .returned (.int .i64 36) ∧ Below w.heap.size w w' := by
  have HX := Aside0.mk hx
  by_cases h0 : s.size = 0
  · obtain rfl : s = ⟨#[]⟩ := by
      apply ByteArray.ext
      exact Array.eq_empty_of_size_eq_zero h0
    clear hs h0 hx
    go_enter_defers Tryd.func14, Tryd.ntmps14
    go_wp2_with (go_at_call 25; go_loud (refine (lock_free muLib ⟨x.b, 0, none⟩ _ HX.out.c0 (blk_frozen HX.out.blk 0)).mono ?_; rintro e w3 ⟨rfl, hw3⟩; have HW3 := Aside0.mk hw3; have X3 := Aside0.mk (show x.At w3 base 1 by rw [hw3]; exact HX.out.lock 1);  clear hw3))
    refine leaves_cons (f := 26) (args := #[.pointer (some ⟨x.b, 0, none⟩)]) (by simp) (by simp [go_sem]) ?_
    refine (unlock_deferred muLib ⟨x.b, 0, none⟩ .returning _ X3.out.c0 (blk_frozen X3.out.blk 0)).mono ?_
    rintro e u' w'' ⟨rfl, rfl, rfl⟩
    have e3 := HW3.out
    subst e3
    exact ⟨_, results_tmp rfl _ _ _, rfl, lock_back (Below.refl _ _) (Below.refl _ _) HX.out.blk (X3.out.lock 0).blk⟩
  · have hl1 : decide ((s.size : Int) > 64) = true := decide_eq_true (by omega)
    have hl2 : decide ((64 : Int) < (s.size : Int)) = true := decide_eq_true (by omega)
    have he0 : (s.toList == []) = false := by
      rw [beq_eq_false_iff_ne]
      intro e
      have : s.toList.length = 0 := by rw [e]; rfl
      rw [ByteArray.toList_eq, data_length] at this
      omega
    clear hs h0 hx
    go_enter_defers Tryd.func14, Tryd.ntmps14
    go_wp2_with (go_at_call 25; go_loud (refine (lock_free muLib ⟨x.b, 0, none⟩ _ HX.out.c0 (blk_frozen HX.out.blk 0)).mono ?_; rintro e w3 ⟨rfl, hw3⟩; have HW3 := Aside0.mk hw3; have X3 := Aside0.mk (show x.At w3 base 1 by rw [hw3]; exact HX.out.lock 1);  clear hw3))
    refine leaves_cons (f := 26) (args := #[.pointer (some ⟨x.b, 0, none⟩)]) (by simp) (by simp [go_sem]) ?_
    refine (unlock_deferred muLib ⟨x.b, 0, none⟩ .returning _ X3.out.c0 (blk_frozen X3.out.blk 0)).mono ?_
    rintro e u' w'' ⟨rfl, rfl, rfl⟩
    have e3 := HW3.out
    subst e3
    exact ⟨_, results_tmp rfl _ _ _, rfl, lock_back (Below.refl _ _) (Below.refl _ _) HX.out.blk (X3.out.lock 0).blk⟩
set_option maxHeartbeats 8000000 in
set_option maxRecDepth 100000 in
theorem enroll_full (w : World) (x : RV) (base : Nat) (hx : x.At w base 0) (g : ByteArray → Option (List Int)) (hg : Says x.Dk klS okS g) (s : ByteArray) (hs0 : 0 < s.size) (hs1 : s.size ≤ 64) (hk : g s = none) (hsz : 256 ≤ Maps.size x.Dk) :
    Calls Tryd.prog 14 #[.pointer (some ⟨x.b, 0, none⟩), .string s] w fun e w' => e = .returned (.int .i64 183) ∧ Below w.heap.size w w' := by
  have HX := Aside0.mk hx
  have HG := Aside0.mk hg
  have HGS := Aside0.mk hk
  have HO := Aside0.mk (show okS s from Nat.le_trans hs1 (by simp [maxLen]))
  have he0 : (s.toList == []) = false := by
    rw [beq_eq_false_iff_ne]
    intro e
    have : s.toList.length = 0 := by rw [e]; rfl
    rw [ByteArray.toList_eq, data_length] at this
    omega
  have hl1 : decide ((s.size : Int) > 64) = false := decide_eq_false (by omega)
  have hl2 : decide ((64 : Int) < (s.size : Int)) = false := decide_eq_false (by omega)
  have hz1 : decide ((Maps.size x.Dk : Int) ≥ 256) = true := decide_eq_true (by omega)
  have hz2 : decide ((256 : Int) ≤ (Maps.size x.Dk : Int)) = true := decide_eq_true (by omega)
  clear hx hg hk hs0 hs1 hsz
  have HDZ := Aside0.mk (digest_facts zeroD_is.1)
  go_enter_defers Tryd.func14, Tryd.ntmps14
  go_wp2_with (first
    | (go_at_call 25; go_loud (refine (lock_free muLib ⟨x.b, 0, none⟩ _ HX.out.c0 (blk_frozen HX.out.blk 0)).mono ?_; rintro e w3 ⟨rfl, hw3⟩; have HW3 := Aside0.mk hw3; have X3 := Aside0.mk (show x.At w3 base 1 by rw [hw3]; exact HX.out.lock 1); have hlk : (Instr.lookup 63 (.map (some x.bk)) (.string s) true).run Tryd.prog w3 = .ok (.tuple #[.agg (nums .u8 zeroD).toArray, .bool false]) w3 := (by have h := look_keys X3.out.keys HG.out HO.out; rw [HGS.out] at h; exact h); have q3 := X3.out.c3; clear hw3))
    | ((with_reducible refine gate_dst (N := 5) rfl ?_); refine box_event ?hg (N := 5) ?hd (cs := (nums .u8 zeroD).toArray) (t := 27) ?hr ?_; (case hd => rfl); (case hg => rfl); (case hr => first | (go_simp; done) | (go_simp; rfl)); intro b5 hb5 w4 hbox hbl; have B5 := Aside0.mk hbox; have HB4 := Aside0.mk hbl; have X4 := Aside0.mk (X3.out.below hbl); have G5 := Aside0.mk (show w3.heap.size ≤ b5 by omega); have N5 := Aside0.mk (show x.b < b5 by have := blk_lt X3.out.blk; omega); clear hb5 hbox hbl)
    | (refine put_row rfl 27 (.tmp 5) (.tmp 28) rfl b5 (nums .u8 zeroD).toArray rfl rfl 27 _ B5.out HDZ.out.1 rfl HDZ.out.2.2 ?_; go_loud (have X5 := Aside0.mk (X4.out.keep (keep_row (KeepBut.refl _ b5 none) (nums .u8 zeroD).toArray) (by have := N5.out; omega) (map_cells X4.out.keys B5.out) (map_cells X4.out.signed B5.out) (fun ad had hp => by have := reads_far X3.out.reads ad had hp; have := G5.out; omega)); have HB5 := Aside0.mk (below_row HB4.out G5.out (nums .u8 zeroD).toArray); have q5 := X5.out.c3; have hlen := fun ty => X5.out.keys.len Tryd.underlying63 ty)))
  refine leaves_cons (f := 26) (args := #[.pointer (some ⟨x.b, 0, none⟩)]) (by simp) (by simp [go_sem]) ?_
  refine (unlock_deferred muLib ⟨x.b, 0, none⟩ .returning _ X5.out.c0 (blk_frozen X5.out.blk 0)).mono ?_
  rintro e u' w'' ⟨rfl, rfl, rfl⟩
  exact ⟨_, results_tmp rfl _ _ _, rfl, lock_back (Below.refl _ _) (HW3.out ▸ HB5.out) HX.out.blk (X5.out.lock 0).blk⟩
set_option maxHeartbeats 8000000 in
set_option maxRecDepth 100000 in
theorem has_calls (w : World) (x : RV) (base : Nat) (hx : x.At w base 0) (g : ByteArray → Option (List Int)) (hg : Says x.Dk klS okS g) (hgd : ∀ a v, g a = some v → IsD v) (s : ByteArray) (ho : okS s) :
    Calls Tryd.prog 15 #[.pointer (some ⟨x.b, 0, none⟩), .string s] w fun e w' => e = .returned (.bool (g s).isSome) ∧ Below w.heap.size w w' := by
  have HX := Aside0.mk hx
  have HG := Aside0.mk hg
  have HO := Aside0.mk ho
  cases hk : g s with
  | none =>
    have HGS := Aside0.mk hk
    clear hx hg hgd hk ho
    have HDZ := Aside0.mk (digest_facts zeroD_is.1)
    go_enter_defers Tryd.func15, Tryd.ntmps15
    go_wp2_with (first
      | (go_at_call 25; go_loud (refine (lock_free muLib ⟨x.b, 0, none⟩ _ HX.out.c0 (blk_frozen HX.out.blk 0)).mono ?_; rintro e w3 ⟨rfl, hw3⟩; have HW3 := Aside0.mk hw3; have X3 := Aside0.mk (show x.At w3 base 1 by rw [hw3]; exact HX.out.lock 1); have hlk : (Instr.lookup 63 (.map (some x.bk)) (.string s) true).run Tryd.prog w3 = .ok (.tuple #[.agg (nums .u8 zeroD).toArray, .bool false]) w3 := (by have h := look_keys X3.out.keys HG.out HO.out; rw [HGS.out] at h; exact h); have q3 := X3.out.c3; clear hw3))
      | ((with_reducible refine gate_dst (N := 5) rfl ?_); refine box_event ?hg (N := 5) ?hd (cs := (nums .u8 zeroD).toArray) (t := 27) ?hr ?_; (case hd => rfl); (case hg => rfl); (case hr => first | (go_simp; done) | (go_simp; rfl)); intro b5 hb5 w4 hbox hbl; have B5 := Aside0.mk hbox; have HB4 := Aside0.mk hbl; have X4 := Aside0.mk (X3.out.below hbl); have G5 := Aside0.mk (show w3.heap.size ≤ b5 by omega); have N5 := Aside0.mk (show x.b < b5 by have := blk_lt X3.out.blk; omega); clear hb5 hbox hbl)
      | (refine put_row rfl 27 (.tmp 5) (.tmp 21) rfl b5 (nums .u8 zeroD).toArray rfl rfl 27 _ B5.out HDZ.out.1 rfl HDZ.out.2.2 ?_; go_loud (have X5 := Aside0.mk (X4.out.keep (keep_row (KeepBut.refl _ b5 none) (nums .u8 zeroD).toArray) (by have := N5.out; omega) (map_cells X4.out.keys B5.out) (map_cells X4.out.signed B5.out) (fun ad had hp => by have := reads_far X3.out.reads ad had hp; have := G5.out; omega)); have HB5 := Aside0.mk (below_row HB4.out G5.out (nums .u8 zeroD).toArray))))
    refine leaves_cons (f := 26) (args := #[.pointer (some ⟨x.b, 0, none⟩)]) (by simp) (by simp [go_sem]) ?_
    refine (unlock_deferred muLib ⟨x.b, 0, none⟩ .returning _ X5.out.c0 (blk_frozen X5.out.blk 0)).mono ?_
    rintro e u' w'' ⟨rfl, rfl, rfl⟩
    exact ⟨_, results_tmp rfl _ _ _, rfl, lock_back (Below.refl _ _) (HW3.out ▸ HB5.out) HX.out.blk (X5.out.lock 0).blk⟩
  | some v =>
    have HGS := Aside0.mk hk
    have HV := Aside0.mk (hgd s v hk)
    clear hx hg hgd hk ho
    have HDZ := Aside0.mk (digest_facts HV.out.1)
    go_enter_defers Tryd.func15, Tryd.ntmps15
    go_wp2_with (first
      | (go_at_call 25; go_loud (refine (lock_free muLib ⟨x.b, 0, none⟩ _ HX.out.c0 (blk_frozen HX.out.blk 0)).mono ?_; rintro e w3 ⟨rfl, hw3⟩; have HW3 := Aside0.mk hw3; have X3 := Aside0.mk (show x.At w3 base 1 by rw [hw3]; exact HX.out.lock 1); have hlk : (Instr.lookup 63 (.map (some x.bk)) (.string s) true).run Tryd.prog w3 = .ok (.tuple #[.agg (nums .u8 v).toArray, .bool true]) w3 := (by have h := look_keys X3.out.keys HG.out HO.out; rw [HGS.out] at h; exact h); have q3 := X3.out.c3; clear hw3))
      | ((with_reducible refine gate_dst (N := 5) rfl ?_); refine box_event ?hg (N := 5) ?hd (cs := (nums .u8 zeroD).toArray) (t := 27) ?hr ?_; (case hd => rfl); (case hg => rfl); (case hr => first | (go_simp; done) | (go_simp; rfl)); intro b5 hb5 w4 hbox hbl; have B5 := Aside0.mk hbox; have HB4 := Aside0.mk hbl; have X4 := Aside0.mk (X3.out.below hbl); have G5 := Aside0.mk (show w3.heap.size ≤ b5 by omega); have N5 := Aside0.mk (show x.b < b5 by have := blk_lt X3.out.blk; omega); clear hb5 hbox hbl)
      | (refine put_row rfl 27 (.tmp 5) (.tmp 21) rfl b5 (nums .u8 v).toArray rfl rfl 27 _ B5.out HDZ.out.1 (by rw [HDZ.out.2.1]; rfl) HDZ.out.2.2 ?_; go_loud (have X5 := Aside0.mk (X4.out.keep (keep_row (KeepBut.refl _ b5 none) (nums .u8 v).toArray) (by have := N5.out; omega) (map_cells X4.out.keys B5.out) (map_cells X4.out.signed B5.out) (fun ad had hp => by have := reads_far X3.out.reads ad had hp; have := G5.out; omega)); have HB5 := Aside0.mk (below_row HB4.out G5.out (nums .u8 v).toArray))))
    refine leaves_cons (f := 26) (args := #[.pointer (some ⟨x.b, 0, none⟩)]) (by simp) (by simp [go_sem]) ?_
    refine (unlock_deferred muLib ⟨x.b, 0, none⟩ .returning _ X5.out.c0 (blk_frozen X5.out.blk 0)).mono ?_
    rintro e u' w'' ⟨rfl, rfl, rfl⟩
    exact ⟨_, results_tmp rfl _ _ _, rfl, lock_back (Below.refl _ _) (HW3.out ▸ HB5.out) HX.out.blk (X5.out.lock 0).blk⟩
end Go.Proofs.YtoigoiefnapokaaDoor.T
