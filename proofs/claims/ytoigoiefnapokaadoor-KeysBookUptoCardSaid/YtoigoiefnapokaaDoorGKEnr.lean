/- The walk of (*keys.Ring).Enroll, of a name that is not there yet; of one that is. -/
import Derived.Test.YtoigoiefnapokaaDoorGKSign
set_option linter.unusedVariables false
set_option linter.unusedSimpArgs false
namespace Go.Proofs.YtoigoiefnapokaaDoor.T
open Go.RowKit Go.Maps Go.MuLone Go.Proofs.YtoigoiefnapokaaDoorW.PrintWords Go.Proofs.YtoigoiefnapokaaDoorW.PrintLast
/-- The ring with one more key. -/
def RV.enrolled (x : RV) (s : ByteArray) (v : List Int) : RV := { x with nk := x.nk + 1, Dk := x.Dk.put (klS s) (.held (digV v)) }
set_option maxHeartbeats 8000000 in
set_option maxRecDepth 100000 in
theorem enroll_calls (w0 w : World) (x : RV) (hx : x.At w w0.heap.size 0) (hB : Below w0.heap.size w0 w) (g : ByteArray → Option (List Int)) (hg : Says x.Dk klS okS g) (s : ByteArray) (hs0 : 0 < s.size) (hs1 : s.size ≤ 64) (hk : g s = none)
    (hF : LaidF w0) (hL : LaidR w0) (hn : x.nk < 256) :
    Calls Tryd.prog 14 #[.pointer (some ⟨x.b, 0, none⟩), .string s] w fun e w' => e = .returned (.int .i64 0) ∧ KeepBut w w' x.bk none ∧ (x.enrolled s (macf x.sec (bytesOf s))).At w' w0.heap.size 0 ∧ Below w0.heap.size w0 w' := by
  have HB := Aside0.mk hB
  have HX := Aside0.mk hx
  have HG := Aside0.mk hg
  have HGS := Aside0.mk hk
  have HO := Aside0.mk (show okS s from Nat.le_trans hs1 (by simp [maxLen]))
  have HF := Aside0.mk hF
  have HL := Aside0.mk hL
  have HN := Aside0.mk hn
  have HS := Aside0.mk (And.intro hs0 hs1)
  have hmi := mac_is x.sec (bytesOf s)
  obtain ⟨m, hm⟩ : ∃ m, macf x.sec (bytesOf s) = m := ⟨_, rfl⟩
  rw [hm] at hmi ⊢
  have HM := Aside0.mk hmi
  have HMM := Aside0.mk hm
  clear hmi hm
  have he0 : (s.toList == []) = false := by
    rw [beq_eq_false_iff_ne]
    intro e
    have : s.toList.length = 0 := by rw [e]; rfl
    rw [ByteArray.toList_eq, data_length] at this
    omega
  have hl1 : decide ((s.size : Int) > 64) = false := decide_eq_false (by omega)
  have hl2 : decide ((64 : Int) < (s.size : Int)) = false := decide_eq_false (by omega)
  clear hB hx hg hk hs0 hs1 hF hL hn
  have HDZ := Aside0.mk (digest_facts zeroD_is.1)
  go_enter_defers Tryd.func14, Tryd.ntmps14
  go_wp2_with (first
    | (go_at_call 25; go_loud (refine (lock_free muLib ⟨x.b, 0, none⟩ _ HX.out.c0 (blk_frozen HX.out.blk 0)).mono ?_; rintro e w3 ⟨rfl, hw3⟩; have HW3 := Aside0.mk hw3; have HA3 := Aside0.mk (show Below w0.heap.size w0 w3 by rw [hw3]; exact HB.out.setCell HX.out.base.1 _); have X3 := Aside0.mk (show x.At w3 w0.heap.size 1 by rw [hw3]; exact HX.out.lock 1); have hlk : (Instr.lookup 63 (.map (some x.bk)) (.string s) true).run Tryd.prog w3 = .ok (.tuple #[.agg (nums .u8 zeroD).toArray, .bool false]) w3 := (by have h := look_keys X3.out.keys HG.out HO.out; rw [HGS.out] at h; exact h); have q3 := X3.out.c3; clear hw3))
    | ((with_reducible refine gate_dst (N := 5) rfl ?_); refine box_event ?hg (N := 5) ?hd (cs := (nums .u8 zeroD).toArray) (t := 27) ?hr ?_; (case hd => rfl); (case hg => rfl); (case hr => first | (go_simp; done) | (go_simp; rfl)); intro b5 hb5 w4 hbox hbl; have B5 := Aside0.mk hbox; have HB4 := Aside0.mk hbl; have HA4 := Aside0.mk (below_step HA3.out hbl); have X4 := Aside0.mk (X3.out.below hbl); have G5 := Aside0.mk (show w3.heap.size ≤ b5 by omega); have N5 := Aside0.mk (show x.b < b5 by have := blk_lt X3.out.blk; omega); clear hb5 hbox hbl)
    | (refine put_row rfl 27 (.tmp 5) (.tmp 28) rfl b5 (nums .u8 zeroD).toArray rfl rfl 27 _ B5.out HDZ.out.1 rfl HDZ.out.2.2 ?_; go_loud (have X5 := Aside0.mk (X4.out.keep (keep_row (KeepBut.refl _ b5 none) (nums .u8 zeroD).toArray) (by have := N5.out; omega) (map_cells X4.out.keys B5.out) (map_cells X4.out.signed B5.out) (fun ad had hp => by have := reads_far X3.out.reads ad had hp; have := G5.out; omega)); have HB5 := Aside0.mk (below_row HB4.out G5.out (nums .u8 zeroD).toArray); have HA5 := Aside0.mk (show Below w0.heap.size w0 (w4.setRow b5 (nums .u8 zeroD).toArray) from below_row HA4.out (by have := G5.out; have := HA3.out.size; omega) _); have q5 := X5.out.c3; have hlen := fun ty => X5.out.keys.len Tryd.underlying63 ty; have hsz : Maps.size x.Dk < 256 := Nat.lt_of_le_of_lt X5.out.keys.size_le HN.out; have hz1 : decide ((Maps.size x.Dk : Int) ≥ 256) = false := decide_eq_false (by omega); have hz2 : decide ((256 : Int) ≤ (Maps.size x.Dk : Int)) = false := decide_eq_false (by omega); have HSZ := Aside0.mk hsz; clear hsz)))
  generalize w4.setRow b5 (nums .u8 zeroD).toArray = w5 at X5 HB5 HA5 ⊢
  clear hlk q3 q5 hlen hz1 hz2 B5 HB4 HA4 X4 he0 hl1 hl2
  refine wp_region_noPanic ?_
  refine start_ (n := 13) (S := fun w' => x.At w' w0.heap.size 1 ∧ Below w3.heap.size w3 w' ∧ Below w0.heap.size w0 w') (ds := [12]) #[false, false, false, false, false, false, false, false, false, false, false, false, false] (by kernel_rfl) rfl rfl ⟨X5.out.drew, below_drew HB5.out, below_drew HA5.out⟩ (fun hHeld => ?_)
  refine pure_ (i := 0) (N := some 37) (v := ?v1) (a' := ?a1) #[true, false, false, false, false, false, false, false, false, false, false, false, false] rfl rfl (by kernel_rfl) (fun _ _ _ h => h) (Or.inl ⟨by rfl, ?hy1⟩) ?ha1 ?hh1
  case hy1 =>
    intro w'
    go_simp
    with_reducible rfl
  case ha1 =>
    simp only [Act.put, List.setIfInBounds_toArray, List.set_cons_zero, List.set_cons_succ]
    rfl
  refine pure_ (i := 1) (N := some 38) (v := ?v2) (a' := ?a2) #[true, true, false, false, false, false, false, false, false, false, false, false, false] rfl rfl (by kernel_rfl) (fun _ _ _ h => h) (Or.inl ⟨by rfl, ?hy2⟩) ?ha2 ?hh2
  case hy2 =>
    intro w'
    go_simp
    with_reducible rfl
  case ha2 =>
    simp only [Act.put, List.setIfInBounds_toArray, List.set_cons_zero, List.set_cons_succ]
    rfl
  refine pure_ (i := 2) (N := some 39) (v := ?v3) (a' := ?a3) #[true, true, true, false, false, false, false, false, false, false, false, false, false] rfl rfl (by kernel_rfl) (fun _ _ _ h => h) (Or.inl ⟨by rfl, ?hy3⟩) ?ha3 ?hh3
  case hy3 =>
    intro w'
    go_simp
    with_reducible rfl
  case ha3 =>
    simp only [Act.put, List.setIfInBounds_toArray, List.set_cons_zero, List.set_cons_succ]
    rfl
  refine take_ (i := 3) (N := some 40) (v := ?v4) (a' := ?a4) #[true, true, true, true, false, false, false, false, false, false, false, false, false] rfl rfl (by kernel_rfl) (fun _ _ _ h => h) (Or.inl ⟨by rfl, ?hy4⟩) hHeld ?ha4 ?hh4
  case hy4 =>
    intro w' s0
    have q := s0.1.c3
    go_simp
    with_reducible rfl
  case ha4 =>
    simp only [Act.put, List.setIfInBounds_toArray, List.set_cons_zero, List.set_cons_succ]
    rfl
  refine pure_ (i := 4) (N := some 41) (v := ?v5) (a' := ?a5) #[true, true, true, true, true, false, false, false, false, false, false, false, false] rfl rfl (by kernel_rfl) (fun _ _ _ h => h) (Or.inl ⟨by rfl, ?hy5⟩) ?ha5 ?hh5
  case hy5 =>
    intro w'
    go_simp
    with_reducible rfl
  case ha5 =>
    simp only [Act.put, List.setIfInBounds_toArray, List.set_cons_zero, List.set_cons_succ]
    rfl
  refine pure_ (i := 5) (N := some 42) (v := ?v6) (a' := ?a6) #[true, true, true, true, true, true, false, false, false, false, false, false, false] rfl rfl (by kernel_rfl) (fun _ _ _ h => h) (Or.inl ⟨by rfl, ?hy6⟩) ?ha6 ?hh6
  case hy6 =>
    intro w'
    go_simp
    with_reducible rfl
  case ha6 =>
    simp only [Act.put, List.setIfInBounds_toArray, List.set_cons_zero, List.set_cons_succ]
    rfl
  refine pure_ (i := 6) (N := some 43) (v := ?v7) (a' := ?a7) #[true, true, true, true, true, true, true, false, false, false, false, false, false] rfl rfl (by kernel_rfl) (fun _ _ _ h => h) (Or.inl ⟨by rfl, ?hy7⟩) ?ha7 ?hh7
  case hy7 =>
    intro w'
    go_simp
    with_reducible rfl
  case ha7 =>
    simp only [Act.put, List.setIfInBounds_toArray, List.set_cons_zero, List.set_cons_succ]
    rfl
  refine pure_ (i := 7) (N := some 44) (v := ?v8) (a' := ?a8) #[true, true, true, true, true, true, true, true, false, false, false, false, false] rfl rfl (by kernel_rfl) (fun _ _ _ h => h) (Or.inl ⟨by rfl, ?hy8⟩) ?ha8 ?hh8
  case hy8 =>
    intro w'
    go_simp
    with_reducible rfl
  case ha8 =>
    simp only [Act.put, List.setIfInBounds_toArray, List.set_cons_zero, List.set_cons_succ]
    rfl
  refine take_ (i := 8) (N := some 45) (v := ?v9) (a' := ?a9) #[true, true, true, true, true, true, true, true, true, false, false, false, false] rfl rfl (by kernel_rfl) (fun _ _ _ h => h) (Or.inl ⟨by rfl, ?hy9⟩) hHeld ?ha9 ?hh9
  case hy9 =>
    intro w' s0
    have q := s0.1.c2
    go_simp
    with_reducible rfl
  case ha9 =>
    simp only [Act.put, List.setIfInBounds_toArray, List.set_cons_zero, List.set_cons_succ]
    rfl
  refine pure_ (i := 9) (N := some 46) (v := ?v10) (a' := ?a10) #[true, true, true, true, true, true, true, true, true, true, false, false, false] rfl rfl (by kernel_rfl) (fun _ _ _ h => h) (Or.inl ⟨by rfl, ?hy10⟩) ?ha10 ?hh10
  case hy10 =>
    intro w'
    go_simp
    with_reducible rfl
  case ha10 =>
    simp only [Act.put, List.setIfInBounds_toArray, List.set_cons_zero, List.set_cons_succ]
    rfl
  generalize w5.drew = w6 at hHeld ⊢
  refine one_ (i := 10) (N := some 47) #[true, true, true, true, true, true, true, true, true, true, true, false, false] rfl rfl (by kernel_rfl) (by decide) (fun K hK => ?_)
  have kb := print_bytes (P := Tryd.prog) 9 22 5 Tryd.underlying9 Tryd.underlying22 Tryd.underlying5 s w6
  refine value_ (w1 := Lib.bytesWorld w6 5 s) (v := .slice (some ⟨w6.heap.size, 0, none⟩) s.size (grownCap w6 s.size 0 5)) (by rfl) rfl (by go_simp) ?_
  have RB := Aside0.mk (bytes_reads w6 5 s (by have := HS.out; omega))
  have LB := Aside0.mk (bytes_below (Below.refl w6.heap.size w6) (Nat.le_refl _) 5 s)
  clear kb
  have hc6 := grownCap_ge w6 s.size 0 5
  generalize grownCap w6 s.size 0 5 = c6 at hc6 ⊢
  have HC6 := Aside0.mk hc6
  clear hc6
  generalize Lib.bytesWorld w6 5 s = w7 at RB LB ⊢
  refine hK.out _ _ ⟨hHeld.1.below LB.out, below_step hHeld.2.1 LB.out, below_step hHeld.2.2 LB.out⟩ (fun hHeld => ?_)
  clear hK K
  refine norm_ (a' := ?a11) ?ha11 ?hh11
  case ha11 =>
    show Act.put _ (some 47) _ = _
    simp only [Act.put, List.setIfInBounds_toArray, List.set_cons_zero, List.set_cons_succ]
    rfl
  refine one_ (i := 11) (N := some 48) #[true, true, true, true, true, true, true, true, true, true, true, true, false] rfl rfl (by kernel_rfl) (by decide) (fun K hK => ?_)
  refine goes_ Tryd.func8 (by kernel_rfl) rfl #[.slice x.A x.sec.length x.ca, .slice (some ⟨w6.heap.size, 0, none⟩) s.size c6] (by rfl) rfl rfl (by simp only [List.map_toArray, List.map_cons, List.map_nil]; rfl) ?_
  refine (mac_callsN _ _ _ x.ca c6 x.sec.length s.size x.sec (bytesOf s) (HF.out.up hHeld.2.2) (HL.out.up hHeld.2.2) hHeld.1.reads hHeld.1.cap.1 hHeld.1.cap.2 (by rw [bytesOf_length]; exact RB.out) (by rw [bytesOf_length]; exact HC6.out) (by rw [bytesOf_length]; have := HS.out; omega) rfl (bytesOf_length s)).mono ?_
  rintro e w8 ⟨rfl, l8⟩
  rw [HMM.out]
  refine ⟨_, rfl, hK.out _ _ ⟨hHeld.1.below l8, below_step hHeld.2.1 l8, below_step hHeld.2.2 l8⟩ (fun hHeld => ?_)⟩
  clear hK K l8 LB RB
  refine norm_ (a' := ?a12) ?ha12 ?hh12
  case ha12 =>
    show Act.put _ (some 48) _ = _
    simp only [Act.put, List.setIfInBounds_toArray, List.set_cons_zero, List.set_cons_succ]
    rfl
  obtain ⟨w9, hrun, own9, turn9⟩ := hHeld.1.keys.store lawS Tryd.underlying63 (Nat.lt_trans HN.out (by decide)) (keyS HO.out) (show RD (digV m) = some (.held (digV m), []) from rfl)
  refine last_ (i := 12) (N := none) #[true, true, true, true, true, true, true, true, true, true, true, true, true] rfl rfl (by kernel_rfl) (by decide) (fun K hK => ?_)
  refine skip_ (w1 := w9) (by rfl) rfl (update_runs (.tmp 40) (.tmp 41) (.tmp 48) rfl rfl rfl rfl hrun) ?_
  have NBK := Aside0.mk hHeld.1.ne_k
  have HXB := Aside0.mk hHeld.1.base
  have X9 := (show (x.enrolled s m).At w9 w0.heap.size 1 from ⟨turned_blk turn9 hHeld.1.blk NBK.out.symm, hHeld.1.reads.keep (turned_keep turn9) (reads_map_far hHeld.1.reads hHeld.1.keys), hHeld.1.far, hHeld.1.cap, own9, map_below hHeld.1.signed (turn9.grown.block _ hHeld.1.signed.lt (fun e => hHeld.1.ne (Option.some.inj e).symm)), hHeld.1.base, hHeld.1.ne⟩)
  have HSZ9 := Aside0.mk (show w3.heap.size ≤ w9.heap.size from Nat.le_trans hHeld.2.1.size turn9.grown.size)
  have H49 := Aside0.mk (show ∀ k, k < w.heap.size → k ≠ x.bk → w9.heap[k]? = w3.heap[k]? from fun k hk hn => by have h3 : k < w3.heap.size := Nat.lt_of_lt_of_le hk (by rw [HW3.out]; simp); exact (turn9.grown.block k (Nat.lt_of_lt_of_le h3 hHeld.2.1.size) (fun e => hn (Option.some.inj e))).trans (hHeld.2.1.block k h3))
  have HA9 := Aside0.mk (turned_below turn9 hHeld.2.2 HXB.out.2.1)
  refine hK.out _ _ ?_
  clear hK K hHeld hrun own9 turn9
  refine norm_ (a' := ?anE) ?hnE ?hmE
  case hnE =>
    rfl
  refine done_ (by kernel_rfl) ?_
  refine NoPanic.normal ?_
  go_wp2
  refine leaves_cons (f := 26) (args := #[.pointer (some ⟨x.b, 0, none⟩)]) (by simp) (by simp [go_sem]) ?_
  refine (unlock_deferred muLib ⟨x.b, 0, none⟩ .returning _ X9.c0 (blk_frozen X9.blk 0)).mono ?_
  rintro e u' w'' ⟨rfl, rfl, rfl⟩
  refine ⟨_, results_tmp rfl _ _ _, rfl, ?_, X9.lock 0, HA9.out.setCell HXB.out.1 _⟩
  refine lock_keep (u := .int .i32 1) (Below.refl _ _) ?_ ?_ HX.out.blk (X9.lock 0).blk
  · rw [← HW3.out]; exact HSZ9.out
  · intro k hk hn
    rw [← HW3.out]
    exact H49.out k hk hn
set_option maxHeartbeats 8000000 in
set_option maxRecDepth 100000 in
theorem enroll_old (w : World) (x : RV) (base : Nat) (hx : x.At w base 0) (g : ByteArray → Option (List Int)) (hg : Says x.Dk klS okS g) (hgd : ∀ a v, g a = some v → IsD v) (s : ByteArray) (hs0 : 0 < s.size) (hs1 : s.size ≤ 64) (v : List Int) (hk : g s = some v) :
    Calls Tryd.prog 14 #[.pointer (some ⟨x.b, 0, none⟩), .string s] w fun e w' => e = .returned (.int .i64 181) ∧ Below w.heap.size w w' := by
  have HX := Aside0.mk hx
  have HG := Aside0.mk hg
  have HGS := Aside0.mk hk
  have HV := Aside0.mk (hgd s v hk)
  have HO := Aside0.mk (show okS s from Nat.le_trans hs1 (by simp [maxLen]))
  have he0 : (s.toList == []) = false := by
    rw [beq_eq_false_iff_ne]
    intro e
    have : s.toList.length = 0 := by rw [e]; rfl
    rw [ByteArray.toList_eq, data_length] at this
    omega
  have hl1 : decide ((s.size : Int) > 64) = false := decide_eq_false (by omega)
  have hl2 : decide ((64 : Int) < (s.size : Int)) = false := decide_eq_false (by omega)
  clear hx hg hgd hk hs0 hs1
  have HDZ := Aside0.mk (digest_facts HV.out.1)
  go_enter_defers Tryd.func14, Tryd.ntmps14
  go_wp2_with (first
    | (go_at_call 25; go_loud (refine (lock_free muLib ⟨x.b, 0, none⟩ _ HX.out.c0 (blk_frozen HX.out.blk 0)).mono ?_; rintro e w3 ⟨rfl, hw3⟩; have HW3 := Aside0.mk hw3; have X3 := Aside0.mk (show x.At w3 base 1 by rw [hw3]; exact HX.out.lock 1); have hlk : (Instr.lookup 63 (.map (some x.bk)) (.string s) true).run Tryd.prog w3 = .ok (.tuple #[.agg (nums .u8 v).toArray, .bool true]) w3 := (by have h := look_keys X3.out.keys HG.out HO.out; rw [HGS.out] at h; exact h); have q3 := X3.out.c3; clear hw3))
    | ((with_reducible refine gate_dst (N := 5) rfl ?_); refine box_event ?hg (N := 5) ?hd (cs := (nums .u8 zeroD).toArray) (t := 27) ?hr ?_; (case hd => rfl); (case hg => rfl); (case hr => first | (go_simp; done) | (go_simp; rfl)); intro b5 hb5 w4 hbox hbl; have B5 := Aside0.mk hbox; have HB4 := Aside0.mk hbl; have X4 := Aside0.mk (X3.out.below hbl); have G5 := Aside0.mk (show w3.heap.size ≤ b5 by omega); have N5 := Aside0.mk (show x.b < b5 by have := blk_lt X3.out.blk; omega); clear hb5 hbox hbl)
    | (refine put_row rfl 27 (.tmp 5) (.tmp 28) rfl b5 (nums .u8 v).toArray rfl rfl 27 _ B5.out HDZ.out.1 (by rw [HDZ.out.2.1]; rfl) HDZ.out.2.2 ?_; go_loud (have X5 := Aside0.mk (X4.out.keep (keep_row (KeepBut.refl _ b5 none) (nums .u8 v).toArray) (by have := N5.out; omega) (map_cells X4.out.keys B5.out) (map_cells X4.out.signed B5.out) (fun ad had hp => by have := reads_far X3.out.reads ad had hp; have := G5.out; omega)); have HB5 := Aside0.mk (below_row HB4.out G5.out (nums .u8 v).toArray))))
  refine leaves_cons (f := 26) (args := #[.pointer (some ⟨x.b, 0, none⟩)]) (by simp) (by simp [go_sem]) ?_
  refine (unlock_deferred muLib ⟨x.b, 0, none⟩ .returning _ X5.out.c0 (blk_frozen X5.out.blk 0)).mono ?_
  rintro e u' w'' ⟨rfl, rfl, rfl⟩
  exact ⟨_, results_tmp rfl _ _ _, rfl, lock_back (Below.refl _ _) (HW3.out ▸ HB5.out) HX.out.blk (X5.out.lock 0).blk⟩
end Go.Proofs.YtoigoiefnapokaaDoor.T
