/- (*keys.Ring).Has; what Enroll refuses. -/
import Derived.Test.YtoigoiefnapokaaDoorGKEnd
import Derived.Test.YtoigoiefnapokaaDoorGKJoin
import Derived.Test.YtoigoiefnapokaaDoorGLayS
import Derived.Maps.RangeWalk
import Derived.Sort.KeysCollected
import Derived.Shelf.SortM.Plain
import Derived.Test.YtoigoiefnapokaaDoorGKRows
set_option linter.unusedVariables false
set_option linter.unusedSimpArgs false
namespace Go.Proofs.YtoigoiefnapokaaDoor.T
open Go.RowKit Go.Maps Go.MuLone Go.Proofs.YtoigoiefnapokaaDoorW.PrintWords Go.Proofs.YtoigoiefnapokaaDoorW.PrintLast
set_option maxHeartbeats 8000000 in
set_option maxRecDepth 100000 in
theorem enroll_bad (w : World) (x : RV) (base : Nat) (hx : x.At w base 0) (s : ByteArray) (hs : s.size = 0 ∨ 64 < s.size) :
    Calls Tryd.prog 14 #[.pointer (some ⟨x.b, 0, none⟩), .string s] w fun e w' => e = .returned (.int .i64 36) ∧ Below w.heap.size w w' := by
  have HX := Aside0.mk hx
  by_cases h0 : s.size = 0
  · obtain rfl : s = ⟨#[]⟩ := by
      apply ByteArray.ext
      exact Array.eq_empty_of_size_eq_zero h0
    clear hs h0 hx
    go_enter_defers Tryd.func14, Tryd.ntmps14
    go_wp2_with (go_at_call 25; go_loud (refine (lock_free muLib ⟨x.b, 0, none⟩ _ HX.out.c0 (blk_frozen HX.out.blk 0)).mono ?_; rintro e w3 ⟨rfl, hw3⟩; have HW3 := Aside0.mk hw3; have X3 := Aside0.mk (show x.At w3 base 1 by rw [hw3]; exact HX.out.lock 1);  clear hw3))
    refine leaves_cons (f := 26) (args := #[.pointer (some ⟨x.b, 0, none⟩)]) (by simp) (by simp [go_sem]) ?_
    refine (unlock_deferred muLib ⟨x.b, 0, none⟩ .returning _ X3.out.c0 (blk_frozen X3.out.blk 0)).mono ?_
    rintro e u' w'' ⟨rfl, rfl, rfl⟩
    have e3 := HW3.out
    subst e3
    exact ⟨_, results_tmp rfl _ _ _, rfl, lock_back (Below.refl _ _) (Below.refl _ _) HX.out.blk (X3.out.lock 0).blk⟩
  · have hl1 : decide ((s.size : Int) > 64) = true := decide_eq_true (by omega)
    have hl2 : decide ((64 : Int) < (s.size : Int)) = true := decide_eq_true (by omega)
    have he0 : (s.toList == []) = false := by
      rw [beq_eq_false_iff_ne]
      intro e
      have : s.toList.length = 0 := by rw [e]; rfl
      rw [ByteArray.toList_eq, data_length] at this
      omega
    clear hs h0 hx
    go_enter_defers Tryd.func14, Tryd.ntmps14
    go_wp2_with (go_at_call 25; go_loud (refine (lock_free muLib ⟨x.b, 0, none⟩ _ HX.out.c0 (blk_frozen HX.out.blk 0)).mono ?_; rintro e w3 ⟨rfl, hw3⟩; have HW3 := Aside0.mk hw3; have X3 := Aside0.mk (show x.At w3 base 1 by rw [hw3]; exact HX.out.lock 1);  clear hw3))
    refine leaves_cons (f := 26) (args := #[.pointer (some ⟨x.b, 0, none⟩)]) (by simp) (by simp [go_sem]) ?_
    refine (unlock_deferred muLib ⟨x.b, 0, none⟩ .returning _ X3.out.c0 (blk_frozen X3.out.blk 0)).mono ?_
    rintro e u' w'' ⟨rfl, rfl, rfl⟩
    have e3 := HW3.out
    subst e3
    exact ⟨_, results_tmp rfl _ _ _, rfl, lock_back (Below.refl _ _) (Below.refl _ _) HX.out.blk (X3.out.lock 0).blk⟩
set_option maxHeartbeats 8000000 in
set_option maxRecDepth 100000 in
theorem enroll_full (w : World) (x : RV) (base : Nat) (hx : x.At w base 0) (g : ByteArray → Option (List Int)) (hg : Says x.Dk klS okS g) (s : ByteArray) (hs0 : 0 < s.size) (hs1 : s.size ≤ 64) (hk : g s = none) (hsz : 256 ≤ Maps.size x.Dk) :
    Calls Tryd.prog 14 #[.pointer (some ⟨x.b, 0, none⟩), .string s] w fun e w' => e = .returned (.int .i64 183) ∧ Below w.heap.size w w' := by
  have HX := Aside0.mk hx
  have HG := Aside0.mk hg
  have HGS := Aside0.mk hk
  have HO := Aside0.mk (show okS s from Nat.le_trans hs1 (by simp [maxLen]))
  have he0 : (s.toList == []) = false := by
    rw [beq_eq_false_iff_ne]
    intro e
    have : s.toList.length = 0 := by rw [e]; rfl
    rw [ByteArray.toList_eq, data_length] at this
    omega
  have hl1 : decide ((s.size : Int) > 64) = false := decide_eq_false (by omega)
  have hl2 : decide ((64 : Int) < (s.size : Int)) = false := decide_eq_false (by omega)
  have hz1 : decide ((Maps.size x.Dk : Int) ≥ 256) = true := decide_eq_true (by omega)
  have hz2 : decide ((256 : Int) ≤ (Maps.size x.Dk : Int)) = true := decide_eq_true (by omega)
  clear hx hg hk hs0 hs1 hsz
  have HDZ := Aside0.mk (digest_facts zeroD_is.1)
  go_enter_defers Tryd.func14, Tryd.ntmps14
  go_wp2_with (first
    | (go_at_call 25; go_loud (refine (lock_free muLib ⟨x.b, 0, none⟩ _ HX.out.c0 (blk_frozen HX.out.blk 0)).mono ?_; rintro e w3 ⟨rfl, hw3⟩; have HW3 := Aside0.mk hw3; have X3 := Aside0.mk (show x.At w3 base 1 by rw [hw3]; exact HX.out.lock 1); have hlk : (Instr.lookup 63 (.map (some x.bk)) (.string s) true).run Tryd.prog w3 = .ok (.tuple #[.agg (nums .u8 zeroD).toArray, .bool false]) w3 := (by have h := look_keys X3.out.keys HG.out HO.out; rw [HGS.out] at h; exact h); have q3 := X3.out.c3; clear hw3))
    | ((with_reducible refine gate_dst (N := 5) rfl ?_); refine box_event ?hg (N := 5) ?hd (cs := (nums .u8 zeroD).toArray) (t := 27) ?hr ?_; (case hd => rfl); (case hg => rfl); (case hr => first | (go_simp; done) | (go_simp; rfl)); intro b5 hb5 w4 hbox hbl; have B5 := Aside0.mk hbox; have HB4 := Aside0.mk hbl; have X4 := Aside0.mk (X3.out.below hbl); have G5 := Aside0.mk (show w3.heap.size ≤ b5 by omega); have N5 := Aside0.mk (show x.b < b5 by have := blk_lt X3.out.blk; omega); clear hb5 hbox hbl)
    | (refine put_row rfl 27 (.tmp 5) (.tmp 28) rfl b5 (nums .u8 zeroD).toArray rfl rfl 27 _ B5.out HDZ.out.1 rfl HDZ.out.2.2 ?_; go_loud (have X5 := Aside0.mk (X4.out.keep (keep_row (KeepBut.refl _ b5 none) (nums .u8 zeroD).toArray) (by have := N5.out; omega) (map_cells X4.out.keys B5.out) (map_cells X4.out.signed B5.out) (fun ad had hp => by have := reads_far X3.out.reads ad had hp; have := G5.out; omega)); have HB5 := Aside0.mk (below_row HB4.out G5.out (nums .u8 zeroD).toArray); have q5 := X5.out.c3; have hlen := fun ty => X5.out.keys.len Tryd.underlying63 ty)))
  refine leaves_cons (f := 26) (args := #[.pointer (some ⟨x.b, 0, none⟩)]) (by simp) (by simp [go_sem]) ?_
  refine (unlock_deferred muLib ⟨x.b, 0, none⟩ .returning _ X5.out.c0 (blk_frozen X5.out.blk 0)).mono ?_
  rintro e u' w'' ⟨rfl, rfl, rfl⟩
  exact ⟨_, results_tmp rfl _ _ _, rfl, lock_back (Below.refl _ _) (HW3.out ▸ HB5.out) HX.out.blk (X5.out.lock 0).blk⟩
set_option maxHeartbeats 8000000 in
set_option maxRecDepth 100000 in
theorem has_calls (w : World) (x : RV) (base : Nat) (hx : x.At w base 0) (g : ByteArray → Option (List Int)) (hg : Says x.Dk klS okS g) (hgd : ∀ a v, g a = some v → IsD v) (s : ByteArray) (ho : okS s) :
    Calls Tryd.prog 15 #[.pointer (some ⟨x.b, 0, none⟩), .string s] w fun e w' => e = .returned (.bool (g s).isSome) ∧ Below w.heap.size w w' := by
  have HX := Aside0.mk hx
  have HG := Aside0.mk hg
  have HO := Aside0.mk ho
  cases hk : g s with
  | none =>
    have HGS := Aside0.mk hk
    clear hx hg hgd hk ho
    have HDZ := Aside0.mk (digest_facts zeroD_is.1)
    go_enter_defers Tryd.func15, Tryd.ntmps15
    go_wp2_with (first
      | (go_at_call 25; go_loud (refine (lock_free muLib ⟨x.b, 0, none⟩ _ HX.out.c0 (blk_frozen HX.out.blk 0)).mono ?_; rintro e w3 ⟨rfl, hw3⟩; have HW3 := Aside0.mk hw3; have X3 := Aside0.mk (show x.At w3 base 1 by rw [hw3]; exact HX.out.lock 1); have hlk : (Instr.lookup 63 (.map (some x.bk)) (.string s) true).run Tryd.prog w3 = .ok (.tuple #[.agg (nums .u8 zeroD).toArray, .bool false]) w3 := (by have h := look_keys X3.out.keys HG.out HO.out; rw [HGS.out] at h; exact h); have q3 := X3.out.c3; clear hw3))
      | ((with_reducible refine gate_dst (N := 5) rfl ?_); refine box_event ?hg (N := 5) ?hd (cs := (nums .u8 zeroD).toArray) (t := 27) ?hr ?_; (case hd => rfl); (case hg => rfl); (case hr => first | (go_simp; done) | (go_simp; rfl)); intro b5 hb5 w4 hbox hbl; have B5 := Aside0.mk hbox; have HB4 := Aside0.mk hbl; have X4 := Aside0.mk (X3.out.below hbl); have G5 := Aside0.mk (show w3.heap.size ≤ b5 by omega); have N5 := Aside0.mk (show x.b < b5 by have := blk_lt X3.out.blk; omega); clear hb5 hbox hbl)
      | (refine put_row rfl 27 (.tmp 5) (.tmp 21) rfl b5 (nums .u8 zeroD).toArray rfl rfl 27 _ B5.out HDZ.out.1 rfl HDZ.out.2.2 ?_; go_loud (have X5 := Aside0.mk (X4.out.keep (keep_row (KeepBut.refl _ b5 none) (nums .u8 zeroD).toArray) (by have := N5.out; omega) (map_cells X4.out.keys B5.out) (map_cells X4.out.signed B5.out) (fun ad had hp => by have := reads_far X3.out.reads ad had hp; have := G5.out; omega)); have HB5 := Aside0.mk (below_row HB4.out G5.out (nums .u8 zeroD).toArray))))
    refine leaves_cons (f := 26) (args := #[.pointer (some ⟨x.b, 0, none⟩)]) (by simp) (by simp [go_sem]) ?_
    refine (unlock_deferred muLib ⟨x.b, 0, none⟩ .returning _ X5.out.c0 (blk_frozen X5.out.blk 0)).mono ?_
    rintro e u' w'' ⟨rfl, rfl, rfl⟩
    exact ⟨_, results_tmp rfl _ _ _, rfl, lock_back (Below.refl _ _) (HW3.out ▸ HB5.out) HX.out.blk (X5.out.lock 0).blk⟩
  | some v =>
    have HGS := Aside0.mk hk
    have HV := Aside0.mk (hgd s v hk)
    clear hx hg hgd hk ho
    have HDZ := Aside0.mk (digest_facts HV.out.1)
    go_enter_defers Tryd.func15, Tryd.ntmps15
    go_wp2_with (first
      | (go_at_call 25; go_loud (refine (lock_free muLib ⟨x.b, 0, none⟩ _ HX.out.c0 (blk_frozen HX.out.blk 0)).mono ?_; rintro e w3 ⟨rfl, hw3⟩; have HW3 := Aside0.mk hw3; have X3 := Aside0.mk (show x.At w3 base 1 by rw [hw3]; exact HX.out.lock 1); have hlk : (Instr.lookup 63 (.map (some x.bk)) (.string s) true).run Tryd.prog w3 = .ok (.tuple #[.agg (nums .u8 v).toArray, .bool true]) w3 := (by have h := look_keys X3.out.keys HG.out HO.out; rw [HGS.out] at h; exact h); have q3 := X3.out.c3; clear hw3))
      | ((with_reducible refine gate_dst (N := 5) rfl ?_); refine box_event ?hg (N := 5) ?hd (cs := (nums .u8 zeroD).toArray) (t := 27) ?hr ?_; (case hd => rfl); (case hg => rfl); (case hr => first | (go_simp; done) | (go_simp; rfl)); intro b5 hb5 w4 hbox hbl; have B5 := Aside0.mk hbox; have HB4 := Aside0.mk hbl; have X4 := Aside0.mk (X3.out.below hbl); have G5 := Aside0.mk (show w3.heap.size ≤ b5 by omega); have N5 := Aside0.mk (show x.b < b5 by have := blk_lt X3.out.blk; omega); clear hb5 hbox hbl)
      | (refine put_row rfl 27 (.tmp 5) (.tmp 21) rfl b5 (nums .u8 v).toArray rfl rfl 27 _ B5.out HDZ.out.1 (by rw [HDZ.out.2.1]; rfl) HDZ.out.2.2 ?_; go_loud (have X5 := Aside0.mk (X4.out.keep (keep_row (KeepBut.refl _ b5 none) (nums .u8 v).toArray) (by have := N5.out; omega) (map_cells X4.out.keys B5.out) (map_cells X4.out.signed B5.out) (fun ad had hp => by have := reads_far X3.out.reads ad had hp; have := G5.out; omega)); have HB5 := Aside0.mk (below_row HB4.out G5.out (nums .u8 v).toArray))))
    refine leaves_cons (f := 26) (args := #[.pointer (some ⟨x.b, 0, none⟩)]) (by simp) (by simp [go_sem]) ?_
    refine (unlock_deferred muLib ⟨x.b, 0, none⟩ .returning _ X5.out.c0 (blk_frozen X5.out.blk 0)).mono ?_
    rintro e u' w'' ⟨rfl, rfl, rfl⟩
    exact ⟨_, results_tmp rfl _ _ _, rfl, lock_back (Below.refl _ _) (HW3.out ▸ HB5.out) HX.out.blk (X5.out.lock 0).blk⟩
end Go.Proofs.YtoigoiefnapokaaDoor.T
namespace Go.Proofs.YtoigoiefnapokaaDoor.T
open Go.RowKit Go.Maps Go.MuLone Go.Shelf Go.Sort Go.Proofs.YtoigoiefnapokaaDoorW.PrintWords Go.Proofs.YtoigoiefnapokaaDoorW.PrintLast
def kS : Kd (List UInt8) := Kd.scalar encStr (fun _ => rfl)
theorem infoSt : (Tryd.prog.info? 9).map (fun i => (i.zero, i.size, i.bytes)) = some (some (.string ⟨#[]⟩), 1, 16) := by kernel_rfl
theorem strKeys_len {P : Program} {k : TypeId} {R : Value → Option (DataW Value × List MemPlace)} {w : World} {b n : Nat} {D : DataW Value} (h : w.ownsMap P k R b n D) : (strKeys D).length = Maps.size D := by
  obtain ⟨es, rfl, _⟩ := h.keysOf
  simp [strKeys, Maps.size_eq]
theorem ranges_same' {P : Program} {k : TypeId} {R : Value → Option (DataW Value × List MemPlace)} {b r n cnt : Nat} {D : DataW Value} {left : Lit → Bool} {w w' : World} (h : w.ranges P k R b r n D left cnt) (hb : w'.heap[b]? = w.heap[b]?) (hr : w'.heap[r]? = w.heap[r]?) : w'.ranges P k R b r n D left cnt := by
  obtain ⟨es, clock, since, seen, c0, h1, F, hs, hD, h2, rest⟩ := h
  exact ⟨es, clock, since, seen, c0, hb.trans h1, F, hs, hD, hr.trans h2, rest⟩
theorem fresh_ne' {r n k : Nat} (h : r < n) (hk : n ≤ k) : k ≠ r := by omega
theorem grownBy_sortedS {w : World} {g n : Nat} {os : Array Obj} (d : Array (List UInt8)) : w.grownBy (grow (putRow encStr (Sort.ahead w n) g 0 d) os) (some g) := by
  refine ⟨rfl, rfl, rfl, by simp, fun k hk hne => ?_⟩
  rw [heap_grow_old _ _ (by simpa using hk)]
  have : g ≠ k := fun e => hne (by rw [e])
  simp [putRow, mapBlock, Sort.ahead, Array.getElem?_modify, this]
theorem holds_kS {w : World} {base g cap : Nat} {ok : Nat → Prop} {ss : List (List UInt8)} (h : kS.R 9 w base ok (.slice (some ⟨g, 0, none⟩) ss.length cap) ss) : Holds encStr w g 0 ss.toArray := by
  intro j hj
  have hj' : j < ss.length := by simpa using hj
  have := Kd.R_cell (d := []) h (j : Int) (by omega) (by omega)
  rw [Nat.zero_add]
  have e1 : ss.toArray[j]! = ss[j] := by rw [getElem!_pos ss.toArray j hj]; rfl
  have e2 : rdOf [] ss (j : Int) = ss[j] := by simp [rdOf, List.getD_eq_getElem?_getD, List.getElem?_eq_getElem hj']
  rw [e1, ← e2]
  exact this
/-- slices.Sort at a row of strings of the call's own. -/
theorem sortS_calls (g cap : Nat) (ss : List (List UInt8)) (w : World) (base : Nat) {ok : Nat → Prop} (hR : kS.R 9 w base ok (.slice (some ⟨g, 0, none⟩) ss.length cap) ss) (hlen : ss.length < 4611686018427387904) :
    Calls Tryd.prog 28 #[.slice (some ⟨g, 0, none⟩) ss.length cap] w fun e w' => e = .returned (.tuple #[]) ∧ w.grownBy w' (some g) := by
  have hlt := Kd.R_lt hR g (by simp [Value.ownBlock])
  refine (AnyM.slices_Sort_string (P := Tryd.prog) (ρ := Tryd.sS_ren) Tryd.sS g 0 cap ss w (holds_kS hR) hlt hlen).mono ?_
  rintro e w' ⟨rfl, n, os, rfl⟩
  exact ⟨rfl, grownBy_sortedS _⟩
set_option maxHeartbeats 8000000 in
set_option maxRecDepth 100000 in
theorem nlist_calls (w : World) (x : RV) (base : Nat) (hx : x.At w base 0) (hn : x.nk ≤ 100000) (hp : 0 < Maps.size x.Dk) :
    Calls Tryd.prog 16 #[.pointer (some ⟨x.b, 0, none⟩)] w fun e w' => ∃ (A : Option Addr) (c : Nat), e = .returned (.slice A (Maps.size x.Dk) c) ∧ Below w.heap.size w w' := by
  have HX := Aside0.mk hx
  have HN := Aside0.mk hn
  have HP := Aside0.mk hp
  have hu63 := Tryd.underlying66
  clear hx hn hp
  go_enter_defers Tryd.func16, Tryd.ntmps16
  go_wp2_with (first
    | (go_at_call 25; go_loud (refine (lock_free muLib ⟨x.b, 0, none⟩ _ HX.out.c0 (blk_frozen HX.out.blk 0)).mono ?_; rintro e w3 ⟨rfl, hw3⟩; have HW3 := Aside0.mk hw3; have X3 := Aside0.mk (show x.At w3 base 1 by rw [hw3]; exact HX.out.lock 1); have c3 := X3.out.c3; clear hw3))
    | (at_range; go_loud (refine wpList_range_own _ rfl (.tmp 15) 63 rfl 9 27 lawS Tryd.underlying63 RD x.bk x.nk x.Dk rfl X3.out.keys ?_; intro w4 hrg0 hg0 hs0; obtain ⟨r, hr⟩ : ∃ r, w3.heap.size = r := ⟨_, rfl⟩; rw [hr] at hrg0 ⊢; have HRG0 := Aside0.mk hrg0; have HG0 := Aside0.mk hg0; have HSR := Aside0.mk hr; clear hrg0 hg0 hs0 hr)))
  go_frame
  clear c3
  go_loopg [3] x.nk (fun gg s3 wr => ∃ (left : Lit → Bool) (cnt : Nat) (ss : List (List UInt8)), Aside0 (cnt ≤ gg ∧ ss.length + cnt ≤ x.nk) ∧ Aside0 (wr.ranges Tryd.prog 9 RD x.bk r x.nk x.Dk left cnt) ∧ Aside0 (kS.R 9 wr w3.heap.size (fun k => k ≠ r) s3 ss) ∧ Aside0 (Collected x.Dk left ss) ∧ Aside0 (Below w3.heap.size w3 wr))
  case atStart => exact ⟨_, _, [], ⟨X3.out.keys.size_le, by simpa using X3.out.keys.size_le⟩, HRG0, ⟨Kd.R_nil _ _ _ _ _⟩, ⟨Collected.start _⟩, ⟨HG0.out.os, HG0.out.tape, HG0.out.output, HG0.out.size, fun k hk => HG0.out.block k hk (by simp)⟩⟩
  case round =>
    obtain ⟨left, cnt, ss, HC, HRG, HR, HM, HB⟩ := hrel
    go_wp2_with (at_next; go_loud (refine wpList_next_ranges _ rfl (.tmp 16) rfl 9 lawS RD (fun v : Value => v) (fun v : Value => v) (fun key _ _ => ⟨key, rfl⟩) (fun v _ _ => ⟨v, rfl⟩) x.bk r x.nk x.Dk left cnt rfl HRG.out ?_ ?_))
    · intro hc0 hl0
      have hperm := HM.out.perm X3.out.keys lawS Tryd.underlying9 hl0
      have hl : ss.length = Maps.size x.Dk := by rw [hperm.length_eq, strKeys_len X3.out.keys]
      have HLN := Aside0.mk hl
      obtain ⟨g, cap, hv, hgb, _, _⟩ := Kd.R_form HR.out (by rw [hl]; exact HP.out)
      subst hv
      have HGB := Aside0.mk hgb
      have hsc := sortS_calls g cap ss wr w3.heap.size HR.out (by have := HC.out.2; have := HN.out; omega)
      clear hc0 hl0 hperm hl hgb
      go_wp2_with (go_at_call 28; go_loud (refine hsc.mono ?_; rintro e w6 ⟨rfl, hg6⟩; have HG6 := Aside0.mk hg6; clear hg6 hsc))
      have XE := Aside0.mk ((X3.out.below HB.out).grown X3.out.under HG6.out (fun k hk => by cases hk; exact HGB.out))
      have HB6 := Aside0.mk (pw_below_grown HB.out _ HB.out.size HG6.out (fun k hk => by cases hk; exact HGB.out))
      refine leaves_cons (f := 26) (args := #[.pointer (some ⟨x.b, 0, none⟩)]) (by simp) (by simp [go_sem]) ?_
      refine (unlock_deferred muLib ⟨x.b, 0, none⟩ .returning _ XE.out.c0 (blk_frozen XE.out.blk 0)).mono ?_
      rintro e u' w'' ⟨rfl, rfl, rfl⟩
      exact ⟨_, results_tmp rfl _ _ _, some ⟨g, 0, none⟩, cap, (by rw [← HLN.out]; rfl), lock_back (Below.refl _ _) (HW3.out ▸ HB6.out) HX.out.blk (XE.out.lock 0).blk⟩
    · intro key c kl yd yp w5 cnt5 hkey hlk hv hat hrg5 hlt hg5 hs5 hen
      obtain ⟨s, rfl, rfl, _⟩ := Maps.keyOf_str Tryd.underlying9 hkey
      have HLT := Aside0.mk hlt
      have HRG5 := Aside0.mk hrg5
      have HB5 := Aside0.mk (pw_below_grown HB.out _ HB.out.size hg5 (fun k hk => by cases hk; exact Nat.le_of_eq HSR.out))
      have HR5 := Aside0.mk (Kd.R_grown HR.out hg5 (fun k hk e => hk (by cases e; rfl)))
      have HM5 := Aside0.mk (HM.out.step hlk hat)
      have HLEN := Aside0.mk (show (ss.length + 1) * 16 ≤ 140737488355328 by have := HC.out.2; have := HN.out; omega)
      have HRL5 := Aside0.mk HRG5.out.lt
      clear hkey hlk hv hat hrg5 hlt hg5 hs5
      go_wp2_with (first
        | ((with_reducible refine gate_builtin (b := .append) (xs := #[.tmp 21, .tmp 23]) rfl ?_); at_builtin; go_loud (refine Kd.R_append kS (w0 := w3) w3.heap.size rfl (.tmp 21) (.tmp 23) 41 9 (.string ⟨#[]⟩) 16 rfl Tryd.underlying41 infoSt (by rfl) (by decide) (by decide) u3 ss s [encStr s] (fun k => k ≠ r) (fun _ => False) rfl rfl ?e4 (fun k hk => hk.elim) ?e5 ?e6 ?e7 ?e8 ?e9 ?_; (case e4 => exact rfl); (case e5 => exact fun k hk => fresh_ne' HRL5.out hk); (case e6 => exact HR5.out); (case e7 => exact HB5.out); (case e8 => exact HB5.out.size); (case e9 => exact HLEN.out); intro v9 w9 hr9 hb9 hg9 _; have HR9 := Aside0.mk hr9; have HB9 := Aside0.mk hb9; have HG9 := Aside0.mk hg9; clear hr9 hb9 hg9)))
      go_roundg cnt5
      case measure => have := HC.out.1; have := HLT.out; omega
      case rel => exact ⟨_, cnt5, ss ++ [s], ⟨Nat.le_refl _, by rw [List.length_append, List.length_singleton]; have := HC.out.2; have := HLT.out; omega⟩, ⟨ranges_same' HRG5.out (HG9.out.block _ HRG5.out.owns.lt (fun e => by have := Kd.R_base HR5.out _ e.symm; have := X3.out.keys.lt; omega)) (HG9.out.block _ HRG5.out.lt (fun e => HR5.out.1 _ e.symm rfl))⟩, HR9, HM5, HB9⟩
end Go.Proofs.YtoigoiefnapokaaDoor.T
namespace Go.Proofs.YtoigoiefnapokaaDoor.T
open Go.RowKit Go.Maps Go.MuLone Go.Shelf Go.Sort Go.Proofs.YtoigoiefnapokaaDoorW.PrintWords Go.Proofs.YtoigoiefnapokaaDoorW.PrintLast
theorem heap_sortedS {w : World} {g n : Nat} {os : Array Obj} {cur : Array Value} {e : TypeId} {fr : Nat × Nat} (d : Array (List UInt8)) (hb : w.heap[g]? = some (.cells cur e fr)) :
    (grow (putRow encStr (Sort.ahead w n) g 0 d) os).heap[g]? = some (.cells (putCells encStr 0 d cur) e fr) := by
  have hg : g < w.heap.size := (Array.getElem?_eq_some_iff.1 hb).1
  rw [heap_grow_old _ _ (by simpa using hg)]
  simp [putRow, mapBlock, Sort.ahead, Array.getElem?_modify, hb, onCells]
theorem take_putCellsS (cur : Array Value) (F : List (List UInt8)) (h : F.length ≤ cur.size) : (putCells encStr 0 F.toArray cur).toList.take F.length = encs encStr F := by
  apply List.ext_getElem?
  intro j
  by_cases hj : j < F.length
  · rw [List.getElem?_take_of_lt hj, Array.getElem?_toList]
    simp [putCells, hj, show j < cur.size by omega, encs]
  · rw [List.getElem?_take_eq_none (by omega), List.getElem?_eq_none (by simp [encs]; omega)]
/-- slices.Sort at a row of strings of the call's own: what it leaves. -/
theorem sortS2_calls (g cap : Nat) (ss : List (List UInt8)) (w : World) (base : Nat) {ok : Nat → Prop} (hR : kS.R 9 w base ok (.slice (some ⟨g, 0, none⟩) ss.length cap) ss) (hlen : ss.length < 4611686018427387904) :
    Calls Tryd.prog 28 #[.slice (some ⟨g, 0, none⟩) ss.length cap] w fun e w' => e = .returned (.tuple #[]) ∧ w.grownBy w' (some g) ∧ kS.R 9 w' base (fun _ => True) (.slice (some ⟨g, 0, none⟩) ss.length cap) (ss.mergeSort leB) := by
  have hlt := Kd.R_lt hR g (by simp [Value.ownBlock])
  refine (AnyM.slices_Sort_string (P := Tryd.prog) (ρ := Tryd.sS_ren) Tryd.sS g 0 cap ss w (holds_kS hR) hlt hlen).mono ?_
  rintro e w' ⟨rfl, n, os, rfl⟩
  refine ⟨rfl, grownBy_sortedS _, ?_⟩
  have hl : (ss.mergeSort leB).length = ss.length := List.length_mergeSort ..
  obtain ⟨hil, hown2⟩ := Kd.own_of_R hR
  rcases hown2 with ⟨h0, _⟩ | ⟨g', cap', cur, hv, hbase, hb, hnc, hcm, hcs, htk⟩
  · cases h0
  cases hv
  refine Kd.R_of_own (enc := encStr) ⟨by simp [encs], .inr ⟨g, cap, _, by rw [hl], hbase, heap_sortedS _ hb, by rw [hl]; exact hnc, hcm, by simp [putCells, hcs], ?_⟩⟩ (fun _ _ => trivial)
  have := take_putCellsS cur (ss.mergeSort leB) (by rw [hl, hcs]; omega)
  simpa using this
theorem sorted_lt {ss : List (List UInt8)} (hn : ss.Nodup) : (ss.mergeSort leB).Pairwise (fun a b => a < b) := by
  have tr : ∀ a b c : List UInt8, leB a b = true → leB b c = true → leB a c = true := fun a b c h1 h2 => by simp only [leB, decide_eq_true_eq] at *; exact List.le_trans h1 h2
  have tot : ∀ a b : List UInt8, (leB a b || leB b a) = true := fun a b => by simp only [leB, Bool.or_eq_true, decide_eq_true_eq]; exact List.le_total a b
  have h1 := List.pairwise_mergeSort tr tot ss
  have h2 : (ss.mergeSort leB).Nodup := (List.mergeSort_perm ss leB).nodup_iff.2 hn
  refine (h1.and h2).imp ?_
  rintro a b ⟨h, hne⟩
  have h3 : a ≤ b := of_decide_eq_true h
  exact Decidable.byContradiction (fun hlt => hne (List.le_antisymm h3 (List.not_lt.1 hlt)))
set_option maxHeartbeats 8000000 in
set_option maxRecDepth 100000 in
theorem nlist2_calls (w : World) (x : RV) (base : Nat) (hx : x.At w base 0) (hn : Maps.size x.Dk ≤ 100000) (hp : 0 < Maps.size x.Dk) :
    Calls Tryd.prog 16 #[.pointer (some ⟨x.b, 0, none⟩)] w fun e w' => ∃ (A : Option Addr) (c : Nat) (ts : List (List UInt8)), e = .returned (.slice A ts.length c) ∧ ts.length = Maps.size x.Dk ∧ (∀ b, b ∈ ts ↔ Maps.has x.Dk (.string b) = true) ∧ ts.Pairwise (fun a b => a < b) ∧ kS.R 9 w' w.heap.size (fun _ => True) (.slice A ts.length c) ts ∧ Below w.heap.size w w' := by
  have HX := Aside0.mk hx
  have HN := Aside0.mk hn
  have HP := Aside0.mk hp
  have hu63 := Tryd.underlying66
  clear hx hn hp
  go_enter_defers Tryd.func16, Tryd.ntmps16
  go_wp2_with (first
    | (go_at_call 25; go_loud (refine (lock_free muLib ⟨x.b, 0, none⟩ _ HX.out.c0 (blk_frozen HX.out.blk 0)).mono ?_; rintro e w3 ⟨rfl, hw3⟩; have HW3 := Aside0.mk hw3; have X3 := Aside0.mk (show x.At w3 base 1 by rw [hw3]; exact HX.out.lock 1); have c3 := X3.out.c3; clear hw3))
    | (at_range; go_loud (refine wpList_range_own _ rfl (.tmp 15) 63 rfl 9 27 lawS Tryd.underlying63 RD x.bk x.nk x.Dk rfl X3.out.keys ?_; intro w4 hrg0 hg0 hs0; obtain ⟨r, hr⟩ : ∃ r, w3.heap.size = r := ⟨_, rfl⟩; rw [hr] at hrg0 ⊢; have HRG0 := Aside0.mk hrg0; have HG0 := Aside0.mk hg0; have HSR := Aside0.mk hr; clear hrg0 hg0 hs0 hr)))
  go_frame
  clear c3
  go_loopg [3] x.nk (fun gg s3 wr => ∃ (left : Lit → Bool) (cnt : Nat) (ss : List (List UInt8)), Aside0 (cnt ≤ gg ∧ ss.length + cnt ≤ Maps.size x.Dk) ∧ Aside0 (wr.ranges Tryd.prog 9 RD x.bk r x.nk x.Dk left cnt) ∧ Aside0 (kS.R 9 wr w3.heap.size (fun k => k ≠ r) s3 ss) ∧ Aside0 (Collected x.Dk left ss) ∧ Aside0 (Below w3.heap.size w3 wr))
  case atStart => exact ⟨_, _, [], ⟨X3.out.keys.size_le, by simp⟩, HRG0, ⟨Kd.R_nil _ _ _ _ _⟩, ⟨Collected.start _⟩, ⟨HG0.out.os, HG0.out.tape, HG0.out.output, HG0.out.size, fun k hk => HG0.out.block k hk (by simp)⟩⟩
  case round =>
    obtain ⟨left, cnt, ss, HC, HRG, HR, HM, HB⟩ := hrel
    go_wp2_with (at_next; go_loud (refine wpList_next_ranges _ rfl (.tmp 16) rfl 9 lawS RD (fun v : Value => v) (fun v : Value => v) (fun key _ _ => ⟨key, rfl⟩) (fun v _ _ => ⟨v, rfl⟩) x.bk r x.nk x.Dk left cnt rfl HRG.out ?_ ?_))
    · intro hc0 hl0
      have hperm := HM.out.perm X3.out.keys lawS Tryd.underlying9 hl0
      have hl : ss.length = Maps.size x.Dk := by rw [hperm.length_eq, strKeys_len X3.out.keys]
      have HLN := Aside0.mk hl
      have HME := Aside0.mk (show ∀ b, b ∈ ss ↔ Maps.has x.Dk (.string b) = true from fun b => by rw [HM.out.2 b, hl0]; simp)
      have HND := Aside0.mk HM.out.1
      obtain ⟨g, cap, hv, hgb, _, _⟩ := Kd.R_form HR.out (by rw [hl]; exact HP.out)
      subst hv
      have HGB := Aside0.mk hgb
      have hsc := sortS2_calls g cap ss wr w3.heap.size HR.out (by have := HC.out.2; have := HN.out; omega)
      clear hc0 hl0 hperm hl hgb
      go_wp2_with (go_at_call 28; go_loud (refine hsc.mono ?_; rintro e w6 ⟨rfl, hg6, hr6⟩; have HG6 := Aside0.mk hg6; have HR6 := Aside0.mk hr6; clear hg6 hr6 hsc))
      have XE := Aside0.mk ((X3.out.below HB.out).grown X3.out.under HG6.out (fun k hk => by cases hk; exact HGB.out))
      have HB6 := Aside0.mk (pw_below_grown HB.out _ HB.out.size HG6.out (fun k hk => by cases hk; exact HGB.out))
      refine leaves_cons (f := 26) (args := #[.pointer (some ⟨x.b, 0, none⟩)]) (by simp) (by simp [go_sem]) ?_
      refine (unlock_deferred muLib ⟨x.b, 0, none⟩ .returning _ XE.out.c0 (blk_frozen XE.out.blk 0)).mono ?_
      rintro e u' w'' ⟨rfl, rfl, rfl⟩
      have hlm : (ss.mergeSort leB).length = ss.length := List.length_mergeSort ..
      have hsz : w.heap.size ≤ w3.heap.size := by rw [HW3.out]; simp
      refine ⟨_, results_tmp rfl _ _ _, some ⟨g, 0, none⟩, cap, ss.mergeSort leB, (by rw [hlm]; rfl), (by rw [hlm, HLN.out]), fun b => ((List.mergeSort_perm ss leB).mem_iff).trans (HME.out b), sorted_lt HND.out, ?_, lock_back (Below.refl _ _) (HW3.out ▸ HB6.out) HX.out.blk (XE.out.lock 0).blk⟩
      rw [hlm]
      exact Kd.R_lower (Kd.R_mono (Kd.R_far (Kd.R_bound HR6.out) (fun k hk => by have := blk_lt X3.out.blk; have := hk.2.1; show k ≠ x.b; omega) _) (fun _ _ => trivial)) hsz
    · intro key c kl yd yp w5 cnt5 hkey hlk hv hat hrg5 hlt hg5 hs5 hen
      obtain ⟨s, rfl, rfl, _⟩ := Maps.keyOf_str Tryd.underlying9 hkey
      have HLT := Aside0.mk hlt
      have HRG5 := Aside0.mk hrg5
      have HB5 := Aside0.mk (pw_below_grown HB.out _ HB.out.size hg5 (fun k hk => by cases hk; exact Nat.le_of_eq HSR.out))
      have HR5 := Aside0.mk (Kd.R_grown HR.out hg5 (fun k hk e => hk (by cases e; rfl)))
      have HM5 := Aside0.mk (HM.out.step hlk hat)
      have HLEN := Aside0.mk (show (ss.length + 1) * 16 ≤ 140737488355328 by have := HC.out.2; have := HN.out; omega)
      have HRL5 := Aside0.mk HRG5.out.lt
      clear hkey hlk hv hat hrg5 hlt hg5 hs5
      go_wp2_with (first
        | ((with_reducible refine gate_builtin (b := .append) (xs := #[.tmp 21, .tmp 23]) rfl ?_); at_builtin; go_loud (refine Kd.R_append kS (w0 := w3) w3.heap.size rfl (.tmp 21) (.tmp 23) 41 9 (.string ⟨#[]⟩) 16 rfl Tryd.underlying41 infoSt (by rfl) (by decide) (by decide) u3 ss s [encStr s] (fun k => k ≠ r) (fun _ => False) rfl rfl ?e4 (fun k hk => hk.elim) ?e5 ?e6 ?e7 ?e8 ?e9 ?_; (case e4 => exact rfl); (case e5 => exact fun k hk => fresh_ne' HRL5.out hk); (case e6 => exact HR5.out); (case e7 => exact HB5.out); (case e8 => exact HB5.out.size); (case e9 => exact HLEN.out); intro v9 w9 hr9 hb9 hg9 _; have HR9 := Aside0.mk hr9; have HB9 := Aside0.mk hb9; have HG9 := Aside0.mk hg9; clear hr9 hb9 hg9)))
      go_roundg cnt5
      case measure => have := HC.out.1; have := HLT.out; omega
      case rel => exact ⟨_, cnt5, ss ++ [s], ⟨Nat.le_refl _, by rw [List.length_append, List.length_singleton]; have := HC.out.2; have := HLT.out; omega⟩, ⟨ranges_same' HRG5.out (HG9.out.block _ HRG5.out.owns.lt (fun e => by have := Kd.R_base HR5.out _ e.symm; have := X3.out.keys.lt; omega)) (HG9.out.block _ HRG5.out.lt (fun e => HR5.out.1 _ e.symm rfl))⟩, HR9, HM5, HB9⟩
end Go.Proofs.YtoigoiefnapokaaDoor.T
namespace Go.Proofs.YtoigoiefnapokaaDoor.T
open Go.RowKit Go.Maps Go.MuLone Go.Proofs.YtoigoiefnapokaaDoorW.PrintWords Go.Proofs.YtoigoiefnapokaaDoorW.PrintLast
set_option maxHeartbeats 8000000 in
set_option maxRecDepth 100000 in
theorem stands_calls (w : World) (A : Option Addr) (cA : Nat) (ds : List (List Int)) (hA : kD.C w A ds.length ds) (hds : ∀ d ∈ ds, IsD d) (d : List Int) (hd : IsD d) (hex : ∃ i : Nat, ds[i]? = some d) (hn : ds.length ≤ 9223372036854775806) :
    Calls Tryd.prog 18 #[.slice A ds.length cA, .agg (nums .u8 d).toArray] w fun e w' => e = .returned (.bool true) ∧ Below w.heap.size w w' := by
  have HA := Aside0.mk hA
  have HDS := Aside0.mk hds
  have HD := Aside0.mk hd
  have HEX := Aside0.mk hex
  have HN := Aside0.mk hn
  clear hA hds hd hex hn
  go_enter Tryd.func18, Tryd.ntmps18
  go_wp2_with (first
    | ((with_reducible refine gate_dst (N := 3) rfl ?_); refine box_event ?hg (N := 3) ?hd (cs := (nums .u8 d).toArray) (t := 27) ?hr ?_; (case hd => rfl); (case hg => rfl); (case hr => first | (go_simp; done) | (go_simp; rfl)); intro b3 h3 w1 hbox hbl; have B3 := Aside0.mk hbox; have L1 := Aside0.mk hbl; clear h3 hbox hbl))
  go_loopg [5] ds.length (fun gg s5 wr => ∃ (i : Nat), Aside0 (i ≤ ds.length ∧ ds.length - i ≤ gg) ∧ s5 = .int .i64 (i : Int) ∧ Aside0 (wr.heap[b3]? = some (.cells (nums .u8 d).toArray 27 (0, 0))) ∧ Aside0 (Below w.heap.size w wr) ∧ Aside0 (∃ j : Nat, i ≤ j ∧ ds[j]? = some d))
  case atStart => exact ⟨0, ⟨Nat.zero_le _, Nat.le_refl _⟩, rfl, B3, L1, ⟨by obtain ⟨j, h⟩ := HEX.out; exact ⟨j, Nat.zero_le _, h⟩⟩⟩
  case round =>
    clear B3 L1
    obtain ⟨i, HI, rfl, B3, HB0, HJ⟩ := hrel
    have hlt : (i : Int) < (ds.length : Int) := by
      obtain ⟨j, hij, hj⟩ := HJ.out
      have := (List.getElem?_eq_some_iff.1 hj).1
      omega
    have HLT := Aside0.mk (show i < ds.length by omega)
    have hltb : decide ((i : Int) < (ds.length : Int)) = true := decide_eq_true hlt
    have hltn : decide (i < ds.length) = true := decide_eq_true HLT.out
    obtain ⟨e, he⟩ : ∃ e, ds[i]? = some e := ⟨_, List.getElem?_eq_getElem HLT.out⟩
    have HP := Aside0.mk he
    have HPD := Aside0.mk (HDS.out e (List.mem_of_getElem? he))
    obtain ⟨ad, had, _⟩ := HA.out.2.2 (by have := HLT.out; omega)
    subst had
    have p0 : (0 : Int) ≤ (i : Int) := by omega
    have en : (i : Int) + 1 = ((i + 1 : Nat) : Int) := by omega
    have mn : i + 1 ≤ 9223372036854775807 := by have := HLT.out; have := HN.out; omega
    obtain ⟨hwn, hvn⟩ := idx_at en mn
    clear en mn hlt he
    go_wp2_with (fail)
    by_cases hD : e = d
    · have HDD := Aside0.mk hD
      clear hD
      refine start_ (n := 6) (S := fun w' => kD.C w' (some ad) ds.length ds ∧ w'.heap[b3]? = some (.cells (nums .u8 d).toArray 27 (0, 0)) ∧ Below w.heap.size w w') (ds := []) #[false, false, false, false, false, false] (by kernel_rfl) rfl rfl ⟨Kd.C_below HA.out (below_drew HB0.out), blk_drew B3.out, below_drew HB0.out⟩ (fun hHeld => ?_)
      refine pure_ (i := 0) (N := some 12) (v := ?v1) (a' := ?a1) #[true, false, false, false, false, false] rfl rfl (by kernel_rfl) (fun _ _ _ h => h) (Or.inl ⟨by rfl, ?hy1⟩) ?ha1 ?hh1
      case hy1 =>
        intro w'
        go_simp
        with_reducible rfl
      case ha1 =>
        simp only [Act.put, List.setIfInBounds_toArray, List.set_cons_zero, List.set_cons_succ]
        rfl
      refine pure_ (i := 1) (N := some 13) (v := ?v2) (a' := ?a2) #[true, true, false, false, false, false] rfl rfl (by kernel_rfl) (fun _ _ _ h => h) (Or.inl ⟨by rfl, ?hy2⟩) ?ha2 ?hh2
      case hy2 =>
        intro w'
        go_simp
        with_reducible rfl
      case ha2 =>
        simp only [Act.put, List.setIfInBounds_toArray, List.set_cons_zero, List.set_cons_succ]
        rfl
      refine pure_ (i := 2) (N := some 14) (v := (.pointer (some (ad.add (i * 32))))) (a' := ?a3) #[true, true, true, false, false, false] rfl rfl (by kernel_rfl) (fun _ _ _ h => h) (Or.inl ⟨by rfl, fun w' => idxD_run (.tmp 12) (.tmp 13) rfl ad ds.length cA i rfl rfl HLT.out⟩) ?ha3 ?hh3
      case ha3 =>
        simp only [Act.put, List.setIfInBounds_toArray, List.set_cons_zero, List.set_cons_succ]
        rfl
      refine take_ (i := 3) (N := some 15) (v := (.agg (nums .u8 e).toArray)) (a' := ?a4) #[true, true, true, true, false, false] rfl rfl (by kernel_rfl) (fun _ _ _ h => h) (Or.inl ⟨by rfl, fun w' s0 => loadD_run (.tmp 14) rfl _ rfl _ (dig_at s0.1 HP.out).2 (dig_at s0.1 HP.out).1⟩) hHeld ?ha4 ?hh4
      case ha4 =>
        simp only [Act.put, List.setIfInBounds_toArray, List.set_cons_zero, List.set_cons_succ]
        rfl
      refine take_ (i := 4) (N := some 16) (v := (.agg (nums .u8 d).toArray)) (a' := ?a5) #[true, true, true, true, true, false] rfl rfl (by kernel_rfl) (fun _ _ _ h => h) (Or.inl ⟨by rfl, fun w' s0 => loadB_run (.tmp 3) rfl b3 rfl _ HD.out.1 s0.2.1⟩) hHeld ?ha5 ?hh5
      case ha5 =>
        simp only [Act.put, List.setIfInBounds_toArray, List.set_cons_zero, List.set_cons_succ]
        rfl
      refine pure_ (i := 5) (N := some 17) (v := (.bool true)) (a' := ?a6) #[true, true, true, true, true, true] rfl rfl (by kernel_rfl) (fun _ _ _ h => h) (Or.inl ⟨by rfl, fun w' => eqlD_run _ (.tmp 15) (.tmp 16) rfl _ _ rfl rfl HPD.out HD.out true (decide_eq_true HDD.out)⟩) ?ha6 ?hh6
      case ha6 =>
        simp only [Act.put, List.setIfInBounds_toArray, List.set_cons_zero, List.set_cons_succ]
        rfl
      refine done_ (by kernel_rfl) ?_
      have HF := Aside0.mk hHeld
      clear hHeld
      go_wp2
      go_ret
      exact ⟨rfl, HF.out.2.2⟩
    · have HDD := Aside0.mk hD
      clear hD
      refine start_ (n := 6) (S := fun w' => kD.C w' (some ad) ds.length ds ∧ w'.heap[b3]? = some (.cells (nums .u8 d).toArray 27 (0, 0)) ∧ Below w.heap.size w w') (ds := []) #[false, false, false, false, false, false] (by kernel_rfl) rfl rfl ⟨Kd.C_below HA.out (below_drew HB0.out), blk_drew B3.out, below_drew HB0.out⟩ (fun hHeld => ?_)
      refine pure_ (i := 0) (N := some 12) (v := ?v7) (a' := ?a7) #[true, false, false, false, false, false] rfl rfl (by kernel_rfl) (fun _ _ _ h => h) (Or.inl ⟨by rfl, ?hy7⟩) ?ha7 ?hh7
      case hy7 =>
        intro w'
        go_simp
        with_reducible rfl
      case ha7 =>
        simp only [Act.put, List.setIfInBounds_toArray, List.set_cons_zero, List.set_cons_succ]
        rfl
      refine pure_ (i := 1) (N := some 13) (v := ?v8) (a' := ?a8) #[true, true, false, false, false, false] rfl rfl (by kernel_rfl) (fun _ _ _ h => h) (Or.inl ⟨by rfl, ?hy8⟩) ?ha8 ?hh8
      case hy8 =>
        intro w'
        go_simp
        with_reducible rfl
      case ha8 =>
        simp only [Act.put, List.setIfInBounds_toArray, List.set_cons_zero, List.set_cons_succ]
        rfl
      refine pure_ (i := 2) (N := some 14) (v := (.pointer (some (ad.add (i * 32))))) (a' := ?a9) #[true, true, true, false, false, false] rfl rfl (by kernel_rfl) (fun _ _ _ h => h) (Or.inl ⟨by rfl, fun w' => idxD_run (.tmp 12) (.tmp 13) rfl ad ds.length cA i rfl rfl HLT.out⟩) ?ha9 ?hh9
      case ha9 =>
        simp only [Act.put, List.setIfInBounds_toArray, List.set_cons_zero, List.set_cons_succ]
        rfl
      refine take_ (i := 3) (N := some 15) (v := (.agg (nums .u8 e).toArray)) (a' := ?a10) #[true, true, true, true, false, false] rfl rfl (by kernel_rfl) (fun _ _ _ h => h) (Or.inl ⟨by rfl, fun w' s0 => loadD_run (.tmp 14) rfl _ rfl _ (dig_at s0.1 HP.out).2 (dig_at s0.1 HP.out).1⟩) hHeld ?ha10 ?hh10
      case ha10 =>
        simp only [Act.put, List.setIfInBounds_toArray, List.set_cons_zero, List.set_cons_succ]
        rfl
      refine take_ (i := 4) (N := some 16) (v := (.agg (nums .u8 d).toArray)) (a' := ?a11) #[true, true, true, true, true, false] rfl rfl (by kernel_rfl) (fun _ _ _ h => h) (Or.inl ⟨by rfl, fun w' s0 => loadB_run (.tmp 3) rfl b3 rfl _ HD.out.1 s0.2.1⟩) hHeld ?ha11 ?hh11
      case ha11 =>
        simp only [Act.put, List.setIfInBounds_toArray, List.set_cons_zero, List.set_cons_succ]
        rfl
      refine pure_ (i := 5) (N := some 17) (v := (.bool false)) (a' := ?a12) #[true, true, true, true, true, true] rfl rfl (by kernel_rfl) (fun _ _ _ h => h) (Or.inl ⟨by rfl, fun w' => eqlD_run _ (.tmp 15) (.tmp 16) rfl _ _ rfl rfl HPD.out HD.out false (decide_eq_false HDD.out)⟩) ?ha12 ?hh12
      case ha12 =>
        simp only [Act.put, List.setIfInBounds_toArray, List.set_cons_zero, List.set_cons_succ]
        rfl
      refine done_ (by kernel_rfl) ?_
      have HF := Aside0.mk hHeld
      clear hHeld
      go_wp2
      go_roundg (ds.length - (i + 1))
      case measure => clear hwn hvn; have := HI.out; have := HLT.out; omega
      case rel =>
        refine ⟨i + 1, ⟨by clear hwn hvn; have := HLT.out; omega, by clear hwn hvn; exact Nat.le_refl _⟩, by first | (with_reducible rfl) | (simp [hwn]; done) | go_num, ⟨HF.out.2.1⟩, ⟨HF.out.2.2⟩, ⟨?_⟩⟩
        obtain ⟨j, hij, hj⟩ := HJ.out
        refine ⟨j, ?_, hj⟩
        rcases Nat.lt_or_ge i j with h | h
        · exact h
        · have e2 : i = j := by clear hwn hvn; omega
          exfalso
          subst e2
          rw [HP.out] at hj; injection hj with hj
          exact HDD.out hj
set_option maxHeartbeats 8000000 in
set_option maxRecDepth 100000 in
theorem told_calls (w : World) (A : Option Addr) (cA : Nat) (ps : List Pr) (hA : kP.C w A ps.length ps) (hps : ∀ p ∈ ps, IsD p.2) (k : Int) (d : List Int) (hd : IsD d) (hex : ∃ (i : Nat) (p : Pr), ps[i]? = some p ∧ i < 40 ∧ nm p.1 = nm k ∧ p.2 = d) (hn : ps.length ≤ 9223372036854775806) :
    Calls Tryd.prog 19 #[.slice A ps.length cA, .int .i64 k, .agg (nums .u8 d).toArray] w fun e w' => e = .returned (.bool true) ∧ Below w.heap.size w w' := by
  have HA := Aside0.mk hA
  have HPS := Aside0.mk hps
  have HD := Aside0.mk hd
  have HEX := Aside0.mk hex
  have HN := Aside0.mk hn
  clear hA hps hd hex hn
  go_enter Tryd.func19, Tryd.ntmps19
  go_wp2_with (first
    | ((with_reducible refine gate_dst (N := 5) rfl ?_); refine box_event ?hg (N := 5) ?hd (cs := (nums .u8 d).toArray) (t := 27) ?hr ?_; (case hd => rfl); (case hg => rfl); (case hr => first | (go_simp; done) | (go_simp; rfl)); intro b5 h5 w1 hbox hbl; have B5 := Aside0.mk hbox; have L1 := Aside0.mk hbl; clear h5 hbox hbl))
  go_loopg [7] ps.length (fun gg s7 wr => ∃ (i : Nat), Aside0 (i ≤ ps.length ∧ ps.length - i ≤ gg) ∧ s7 = .int .i64 (i : Int) ∧ Aside0 (wr.heap[b5]? = some (.cells (nums .u8 d).toArray 27 (0, 0))) ∧ Aside0 (Below w.heap.size w wr) ∧ Aside0 (∃ (j : Nat) (p : Pr), i ≤ j ∧ ps[j]? = some p ∧ j < 40 ∧ nm p.1 = nm k ∧ p.2 = d))
  case atStart => exact ⟨0, ⟨Nat.zero_le _, Nat.le_refl _⟩, rfl, B5, L1, ⟨by obtain ⟨j, p, h⟩ := HEX.out; exact ⟨j, p, Nat.zero_le _, h⟩⟩⟩
  case round =>
    clear B5 L1
    obtain ⟨i, HI, rfl, B5, HB0, HJ⟩ := hrel
    have hlt : (i : Int) < (ps.length : Int) ∧ (i : Int) < 40 := by
      obtain ⟨j, p, hij, hj, hj4, _⟩ := HJ.out
      have := (List.getElem?_eq_some_iff.1 hj).1
      omega
    have HLT := Aside0.mk (show i < ps.length by omega)
    have c0 : decide ((i : Int) < (ps.length : Int)) = true := decide_eq_true hlt.1
    have c1 : decide (i < ps.length) = true := decide_eq_true HLT.out
    have c2 : decide ((i : Int) < 40) = true := decide_eq_true hlt.2
    have c3 : decide (i < 40) = true := decide_eq_true (by omega)
    obtain ⟨p, hp⟩ : ∃ p, ps[i]? = some p := ⟨_, List.getElem?_eq_getElem HLT.out⟩
    have HP := Aside0.mk hp
    have HPD := Aside0.mk (HPS.out p (List.mem_of_getElem? hp))
    obtain ⟨ad, had, _⟩ := HA.out.2.2 (by have := HLT.out; omega)
    subst had
    have p0 : (0 : Int) ≤ (i : Int) := by omega
    have en : (i : Int) + 1 = ((i + 1 : Nat) : Int) := by omega
    have mn : i + 1 ≤ 9223372036854775807 := by have := HLT.out; have := HN.out; omega
    obtain ⟨hwn, hvn⟩ := idx_at en mn
    clear en mn hlt hp
    go_wp2_with (fail)
    by_cases hN : nm p.1 = nm k
    · by_cases hD : p.2 = d
      · have HDD := Aside0.mk hD
        have HNN := Aside0.mk hN
        clear hD hN
        refine start_ (n := 18) (S := fun w' => kP.C w' (some ad) ps.length ps ∧ w'.heap[b5]? = some (.cells (nums .u8 d).toArray 27 (0, 0)) ∧ Below w.heap.size w w') (ds := []) #[false, false, false, false, false, false, false, false, false, false, false, false, false, false, false, false, false, false] (by kernel_rfl) rfl rfl ⟨Kd.C_below HA.out (below_drew HB0.out), blk_drew B5.out, below_drew HB0.out⟩ (fun hHeld => ?_)
        refine pure_ (i := 0) (N := some 18) (v := ?v13) (a' := ?a13) #[true, false, false, false, false, false, false, false, false, false, false, false, false, false, false, false, false, false] rfl rfl (by kernel_rfl) (fun _ _ _ h => h) (Or.inl ⟨by rfl, ?hy13⟩) ?ha13 ?hh13
        case hy13 =>
          intro w'
          go_simp
          with_reducible rfl
        case ha13 =>
          simp only [Act.put, List.setIfInBounds_toArray, List.set_cons_zero, List.set_cons_succ]
          rfl
        refine pure_ (i := 1) (N := some 19) (v := ?v14) (a' := ?a14) #[true, true, false, false, false, false, false, false, false, false, false, false, false, false, false, false, false, false] rfl rfl (by kernel_rfl) (fun _ _ _ h => h) (Or.inl ⟨by rfl, ?hy14⟩) ?ha14 ?hh14
        case hy14 =>
          intro w'
          go_simp
          with_reducible rfl
        case ha14 =>
          simp only [Act.put, List.setIfInBounds_toArray, List.set_cons_zero, List.set_cons_succ]
          rfl
        refine pure_ (i := 2) (N := some 20) (v := (.pointer (some (ad.add (i * 33))))) (a' := ?a15) #[true, true, true, false, false, false, false, false, false, false, false, false, false, false, false, false, false, false] rfl rfl (by kernel_rfl) (fun _ _ _ h => h) (Or.inl ⟨by rfl, fun w' => idxP_run (.tmp 18) (.tmp 19) rfl ad ps.length cA i rfl rfl HLT.out⟩) ?ha15 ?hh15
        case ha15 =>
          simp only [Act.put, List.setIfInBounds_toArray, List.set_cons_zero, List.set_cons_succ]
          rfl
        refine pure_ (i := 3) (N := some 21) (v := (.pointer (some (ad.add (i * 33))))) (a' := ?a16) #[true, true, true, true, false, false, false, false, false, false, false, false, false, false, false, false, false, false] rfl rfl (by kernel_rfl) (fun _ _ _ h => h) (Or.inl ⟨by rfl, fun w' => fld0_run (.tmp 20) rfl _ rfl⟩) ?ha16 ?hh16
        case ha16 =>
          simp only [Act.put, List.setIfInBounds_toArray, List.set_cons_zero, List.set_cons_succ]
          rfl
        refine take_ (i := 4) (N := some 22) (v := (.int .i64 p.1)) (a' := ?a17) #[true, true, true, true, true, false, false, false, false, false, false, false, false, false, false, false, false, false] rfl rfl (by kernel_rfl) (fun _ _ _ h => h) (Or.inl ⟨by rfl, fun w' s0 => loadI_run (.tmp 21) rfl _ rfl _ (pair_at s0.1 HP.out).1⟩) hHeld ?ha17 ?hh17
        case ha17 =>
          simp only [Act.put, List.setIfInBounds_toArray, List.set_cons_zero, List.set_cons_succ]
          rfl
        refine pure_ (i := 6) (N := some 24) (v := ?v18) (a' := ?a18) #[true, true, true, true, true, false, true, false, false, false, false, false, false, false, false, false, false, false] rfl rfl (by kernel_rfl) (fun _ _ _ h => h) (Or.inl ⟨by rfl, ?hy18⟩) ?ha18 ?hh18
        case hy18 =>
          intro w'
          go_simp
          with_reducible rfl
        case ha18 =>
          simp only [Act.put, List.setIfInBounds_toArray, List.set_cons_zero, List.set_cons_succ]
          rfl
        refine one_ (i := 5) (N := some 23) #[true, true, true, true, true, true, true, false, false, false, false, false, false, false, false, false, false, false] rfl rfl (by kernel_rfl) (by decide) (fun K hK => ?_)
        refine goes_ Tryd.func9 (by kernel_rfl) rfl #[.int .i64 p.1] (by rfl) rfl rfl (by simp only [List.map_toArray, List.map_cons, List.map_nil]; rfl) ?_
        refine (name_calls p.1 _).mono ?_
        rintro e wc1 ⟨rfl, lc1⟩
        refine ⟨_, rfl, hK.out _ _ ⟨Kd.C_below hHeld.1 lc1, blk_below hHeld.2.1 lc1, below_step hHeld.2.2 lc1⟩ (fun hHeld => ?_)⟩
        clear hK K lc1
        refine norm_ (a' := ?a19) ?ha19 ?hh19
        case ha19 =>
          show Act.put _ (some 23) _ = _
          simp only [Act.put, List.setIfInBounds_toArray, List.set_cons_zero, List.set_cons_succ]
          rfl
        refine one_ (i := 7) (N := some 25) #[true, true, true, true, true, true, true, true, false, false, false, false, false, false, false, false, false, false] rfl rfl (by kernel_rfl) (by decide) (fun K hK => ?_)
        refine goes_ Tryd.func9 (by kernel_rfl) rfl #[.int .i64 k] (by rfl) rfl rfl (by simp only [List.map_toArray, List.map_cons, List.map_nil]; rfl) ?_
        refine (name_calls k _).mono ?_
        rintro e wc2 ⟨rfl, lc2⟩
        refine ⟨_, rfl, hK.out _ _ ⟨Kd.C_below hHeld.1 lc2, blk_below hHeld.2.1 lc2, below_step hHeld.2.2 lc2⟩ (fun hHeld => ?_)⟩
        clear hK K lc2
        refine norm_ (a' := ?a20) ?ha20 ?hh20
        case ha20 =>
          show Act.put _ (some 25) _ = _
          simp only [Act.put, List.setIfInBounds_toArray, List.set_cons_zero, List.set_cons_succ]
          rfl
        refine pure_ (i := 8) (N := some 26) (v := (.bool true)) (a' := ?a21) #[true, true, true, true, true, true, true, true, true, false, false, false, false, false, false, false, false, false] rfl rfl (by kernel_rfl) (fun _ _ _ h => h) (Or.inl ⟨by rfl, fun w' => eqlS_run _ _ (.tmp 23) (.tmp 25) rfl rfl _ _ rfl rfl true (decide_eq_true HNN.out)⟩) ?ha21 ?hh21
        case ha21 =>
          simp only [Act.put, List.setIfInBounds_toArray, List.set_cons_zero, List.set_cons_succ]
          rfl
        refine pure_ (i := 9) (N := some 27) (v := ?v22) (a' := ?a22) #[true, true, true, true, true, true, true, true, true, true, false, false, false, false, false, false, false, false] rfl rfl (by kernel_rfl) (fun _ _ _ h => h) (Or.inl ⟨by rfl, ?hy22⟩) ?ha22 ?hh22
        case hy22 =>
          intro w'
          go_simp
          with_reducible rfl
        case ha22 =>
          simp only [Act.put, List.setIfInBounds_toArray, List.set_cons_zero, List.set_cons_succ]
          rfl
        refine pure_ (i := 10) (N := some 28) (v := ?v23) (a' := ?a23) #[true, true, true, true, true, true, true, true, true, true, true, false, false, false, false, false, false, false] rfl rfl (by kernel_rfl) (fun _ _ _ h => h) (Or.inl ⟨by rfl, ?hy23⟩) ?ha23 ?hh23
        case hy23 =>
          intro w'
          go_simp
          with_reducible rfl
        case ha23 =>
          simp only [Act.put, List.setIfInBounds_toArray, List.set_cons_zero, List.set_cons_succ]
          rfl
        refine pure_ (i := 11) (N := some 29) (v := ?v24) (a' := ?a24) #[true, true, true, true, true, true, true, true, true, true, true, true, false, false, false, false, false, false] rfl rfl (by kernel_rfl) (fun _ _ _ h => h) (Or.inl ⟨by rfl, ?hy24⟩) ?ha24 ?hh24
        case hy24 =>
          intro w'
          go_simp
          with_reducible rfl
        case ha24 =>
          simp only [Act.put, List.setIfInBounds_toArray, List.set_cons_zero, List.set_cons_succ]
          rfl
        refine pure_ (i := 12) (N := some 30) (v := (.pointer (some (ad.add (i * 33))))) (a' := ?a25) #[true, true, true, true, true, true, true, true, true, true, true, true, true, false, false, false, false, false] rfl rfl (by kernel_rfl) (fun _ _ _ h => h) (Or.inl ⟨by rfl, fun w' => idxP_run (.tmp 28) (.tmp 29) rfl ad ps.length cA i rfl rfl HLT.out⟩) ?ha25 ?hh25
        case ha25 =>
          simp only [Act.put, List.setIfInBounds_toArray, List.set_cons_zero, List.set_cons_succ]
          rfl
        refine pure_ (i := 13) (N := some 31) (v := (.pointer (some (ad.add (i * 33 + 1))))) (a' := ?a26) #[true, true, true, true, true, true, true, true, true, true, true, true, true, true, false, false, false, false] rfl rfl (by kernel_rfl) (fun _ _ _ h => h) (Or.inl ⟨by rfl, fun w' => fld1_run (.tmp 30) rfl ad i rfl⟩) ?ha26 ?hh26
        case ha26 =>
          simp only [Act.put, List.setIfInBounds_toArray, List.set_cons_zero, List.set_cons_succ]
          rfl
        refine take_ (i := 14) (N := some 32) (v := (.agg (nums .u8 p.2).toArray)) (a' := ?a27) #[true, true, true, true, true, true, true, true, true, true, true, true, true, true, true, false, false, false] rfl rfl (by kernel_rfl) (fun _ _ _ h => h) (Or.inl ⟨by rfl, fun w' s0 => loadD_run (.tmp 31) rfl _ rfl _ (pair_at s0.1 HP.out).2.2 (pair_at s0.1 HP.out).2.1⟩) hHeld ?ha27 ?hh27
        case ha27 =>
          simp only [Act.put, List.setIfInBounds_toArray, List.set_cons_zero, List.set_cons_succ]
          rfl
        refine take_ (i := 15) (N := some 33) (v := (.agg (nums .u8 d).toArray)) (a' := ?a28) #[true, true, true, true, true, true, true, true, true, true, true, true, true, true, true, true, false, false] rfl rfl (by kernel_rfl) (fun _ _ _ h => h) (Or.inl ⟨by rfl, fun w' s0 => loadB_run (.tmp 5) rfl b5 rfl _ HD.out.1 s0.2.1⟩) hHeld ?ha28 ?hh28
        case ha28 =>
          simp only [Act.put, List.setIfInBounds_toArray, List.set_cons_zero, List.set_cons_succ]
          rfl
        refine pure_ (i := 16) (N := some 34) (v := (.bool true)) (a' := ?a29) #[true, true, true, true, true, true, true, true, true, true, true, true, true, true, true, true, true, false] rfl rfl (by kernel_rfl) (fun _ _ _ h => h) (Or.inl ⟨by rfl, fun w' => eqlD_run _ (.tmp 32) (.tmp 33) rfl _ _ rfl rfl HPD.out HD.out true (decide_eq_true HDD.out)⟩) ?ha29 ?hh29
        case ha29 =>
          simp only [Act.put, List.setIfInBounds_toArray, List.set_cons_zero, List.set_cons_succ]
          rfl
        refine pure_ (i := 17) (N := some 35) (v := ?v30) (a' := ?a30) #[true, true, true, true, true, true, true, true, true, true, true, true, true, true, true, true, true, true] rfl rfl (by kernel_rfl) (fun _ _ _ h => h) (Or.inl ⟨by rfl, ?hy30⟩) ?ha30 ?hh30
        case hy30 =>
          intro w'
          go_simp
          with_reducible rfl
        case ha30 =>
          simp only [Act.put, List.setIfInBounds_toArray, List.set_cons_zero, List.set_cons_succ]
          rfl
        refine done_ (by kernel_rfl) ?_
        have HF := Aside0.mk hHeld
        clear hHeld
        go_wp2
        go_ret
        exact ⟨rfl, HF.out.2.2⟩
      · have HDD := Aside0.mk hD
        have HNN := Aside0.mk hN
        clear hD hN
        refine start_ (n := 18) (S := fun w' => kP.C w' (some ad) ps.length ps ∧ w'.heap[b5]? = some (.cells (nums .u8 d).toArray 27 (0, 0)) ∧ Below w.heap.size w w') (ds := []) #[false, false, false, false, false, false, false, false, false, false, false, false, false, false, false, false, false, false] (by kernel_rfl) rfl rfl ⟨Kd.C_below HA.out (below_drew HB0.out), blk_drew B5.out, below_drew HB0.out⟩ (fun hHeld => ?_)
        refine pure_ (i := 0) (N := some 18) (v := ?v31) (a' := ?a31) #[true, false, false, false, false, false, false, false, false, false, false, false, false, false, false, false, false, false] rfl rfl (by kernel_rfl) (fun _ _ _ h => h) (Or.inl ⟨by rfl, ?hy31⟩) ?ha31 ?hh31
        case hy31 =>
          intro w'
          go_simp
          with_reducible rfl
        case ha31 =>
          simp only [Act.put, List.setIfInBounds_toArray, List.set_cons_zero, List.set_cons_succ]
          rfl
        refine pure_ (i := 1) (N := some 19) (v := ?v32) (a' := ?a32) #[true, true, false, false, false, false, false, false, false, false, false, false, false, false, false, false, false, false] rfl rfl (by kernel_rfl) (fun _ _ _ h => h) (Or.inl ⟨by rfl, ?hy32⟩) ?ha32 ?hh32
        case hy32 =>
          intro w'
          go_simp
          with_reducible rfl
        case ha32 =>
          simp only [Act.put, List.setIfInBounds_toArray, List.set_cons_zero, List.set_cons_succ]
          rfl
        refine pure_ (i := 2) (N := some 20) (v := (.pointer (some (ad.add (i * 33))))) (a' := ?a33) #[true, true, true, false, false, false, false, false, false, false, false, false, false, false, false, false, false, false] rfl rfl (by kernel_rfl) (fun _ _ _ h => h) (Or.inl ⟨by rfl, fun w' => idxP_run (.tmp 18) (.tmp 19) rfl ad ps.length cA i rfl rfl HLT.out⟩) ?ha33 ?hh33
        case ha33 =>
          simp only [Act.put, List.setIfInBounds_toArray, List.set_cons_zero, List.set_cons_succ]
          rfl
        refine pure_ (i := 3) (N := some 21) (v := (.pointer (some (ad.add (i * 33))))) (a' := ?a34) #[true, true, true, true, false, false, false, false, false, false, false, false, false, false, false, false, false, false] rfl rfl (by kernel_rfl) (fun _ _ _ h => h) (Or.inl ⟨by rfl, fun w' => fld0_run (.tmp 20) rfl _ rfl⟩) ?ha34 ?hh34
        case ha34 =>
          simp only [Act.put, List.setIfInBounds_toArray, List.set_cons_zero, List.set_cons_succ]
          rfl
        refine take_ (i := 4) (N := some 22) (v := (.int .i64 p.1)) (a' := ?a35) #[true, true, true, true, true, false, false, false, false, false, false, false, false, false, false, false, false, false] rfl rfl (by kernel_rfl) (fun _ _ _ h => h) (Or.inl ⟨by rfl, fun w' s0 => loadI_run (.tmp 21) rfl _ rfl _ (pair_at s0.1 HP.out).1⟩) hHeld ?ha35 ?hh35
        case ha35 =>
          simp only [Act.put, List.setIfInBounds_toArray, List.set_cons_zero, List.set_cons_succ]
          rfl
        refine pure_ (i := 6) (N := some 24) (v := ?v36) (a' := ?a36) #[true, true, true, true, true, false, true, false, false, false, false, false, false, false, false, false, false, false] rfl rfl (by kernel_rfl) (fun _ _ _ h => h) (Or.inl ⟨by rfl, ?hy36⟩) ?ha36 ?hh36
        case hy36 =>
          intro w'
          go_simp
          with_reducible rfl
        case ha36 =>
          simp only [Act.put, List.setIfInBounds_toArray, List.set_cons_zero, List.set_cons_succ]
          rfl
        refine one_ (i := 5) (N := some 23) #[true, true, true, true, true, true, true, false, false, false, false, false, false, false, false, false, false, false] rfl rfl (by kernel_rfl) (by decide) (fun K hK => ?_)
        refine goes_ Tryd.func9 (by kernel_rfl) rfl #[.int .i64 p.1] (by rfl) rfl rfl (by simp only [List.map_toArray, List.map_cons, List.map_nil]; rfl) ?_
        refine (name_calls p.1 _).mono ?_
        rintro e wc1 ⟨rfl, lc1⟩
        refine ⟨_, rfl, hK.out _ _ ⟨Kd.C_below hHeld.1 lc1, blk_below hHeld.2.1 lc1, below_step hHeld.2.2 lc1⟩ (fun hHeld => ?_)⟩
        clear hK K lc1
        refine norm_ (a' := ?a37) ?ha37 ?hh37
        case ha37 =>
          show Act.put _ (some 23) _ = _
          simp only [Act.put, List.setIfInBounds_toArray, List.set_cons_zero, List.set_cons_succ]
          rfl
        refine one_ (i := 7) (N := some 25) #[true, true, true, true, true, true, true, true, false, false, false, false, false, false, false, false, false, false] rfl rfl (by kernel_rfl) (by decide) (fun K hK => ?_)
        refine goes_ Tryd.func9 (by kernel_rfl) rfl #[.int .i64 k] (by rfl) rfl rfl (by simp only [List.map_toArray, List.map_cons, List.map_nil]; rfl) ?_
        refine (name_calls k _).mono ?_
        rintro e wc2 ⟨rfl, lc2⟩
        refine ⟨_, rfl, hK.out _ _ ⟨Kd.C_below hHeld.1 lc2, blk_below hHeld.2.1 lc2, below_step hHeld.2.2 lc2⟩ (fun hHeld => ?_)⟩
        clear hK K lc2
        refine norm_ (a' := ?a38) ?ha38 ?hh38
        case ha38 =>
          show Act.put _ (some 25) _ = _
          simp only [Act.put, List.setIfInBounds_toArray, List.set_cons_zero, List.set_cons_succ]
          rfl
        refine pure_ (i := 8) (N := some 26) (v := (.bool true)) (a' := ?a39) #[true, true, true, true, true, true, true, true, true, false, false, false, false, false, false, false, false, false] rfl rfl (by kernel_rfl) (fun _ _ _ h => h) (Or.inl ⟨by rfl, fun w' => eqlS_run _ _ (.tmp 23) (.tmp 25) rfl rfl _ _ rfl rfl true (decide_eq_true HNN.out)⟩) ?ha39 ?hh39
        case ha39 =>
          simp only [Act.put, List.setIfInBounds_toArray, List.set_cons_zero, List.set_cons_succ]
          rfl
        refine pure_ (i := 9) (N := some 27) (v := ?v40) (a' := ?a40) #[true, true, true, true, true, true, true, true, true, true, false, false, false, false, false, false, false, false] rfl rfl (by kernel_rfl) (fun _ _ _ h => h) (Or.inl ⟨by rfl, ?hy40⟩) ?ha40 ?hh40
        case hy40 =>
          intro w'
          go_simp
          with_reducible rfl
        case ha40 =>
          simp only [Act.put, List.setIfInBounds_toArray, List.set_cons_zero, List.set_cons_succ]
          rfl
        refine pure_ (i := 10) (N := some 28) (v := ?v41) (a' := ?a41) #[true, true, true, true, true, true, true, true, true, true, true, false, false, false, false, false, false, false] rfl rfl (by kernel_rfl) (fun _ _ _ h => h) (Or.inl ⟨by rfl, ?hy41⟩) ?ha41 ?hh41
        case hy41 =>
          intro w'
          go_simp
          with_reducible rfl
        case ha41 =>
          simp only [Act.put, List.setIfInBounds_toArray, List.set_cons_zero, List.set_cons_succ]
          rfl
        refine pure_ (i := 11) (N := some 29) (v := ?v42) (a' := ?a42) #[true, true, true, true, true, true, true, true, true, true, true, true, false, false, false, false, false, false] rfl rfl (by kernel_rfl) (fun _ _ _ h => h) (Or.inl ⟨by rfl, ?hy42⟩) ?ha42 ?hh42
        case hy42 =>
          intro w'
          go_simp
          with_reducible rfl
        case ha42 =>
          simp only [Act.put, List.setIfInBounds_toArray, List.set_cons_zero, List.set_cons_succ]
          rfl
        refine pure_ (i := 12) (N := some 30) (v := (.pointer (some (ad.add (i * 33))))) (a' := ?a43) #[true, true, true, true, true, true, true, true, true, true, true, true, true, false, false, false, false, false] rfl rfl (by kernel_rfl) (fun _ _ _ h => h) (Or.inl ⟨by rfl, fun w' => idxP_run (.tmp 28) (.tmp 29) rfl ad ps.length cA i rfl rfl HLT.out⟩) ?ha43 ?hh43
        case ha43 =>
          simp only [Act.put, List.setIfInBounds_toArray, List.set_cons_zero, List.set_cons_succ]
          rfl
        refine pure_ (i := 13) (N := some 31) (v := (.pointer (some (ad.add (i * 33 + 1))))) (a' := ?a44) #[true, true, true, true, true, true, true, true, true, true, true, true, true, true, false, false, false, false] rfl rfl (by kernel_rfl) (fun _ _ _ h => h) (Or.inl ⟨by rfl, fun w' => fld1_run (.tmp 30) rfl ad i rfl⟩) ?ha44 ?hh44
        case ha44 =>
          simp only [Act.put, List.setIfInBounds_toArray, List.set_cons_zero, List.set_cons_succ]
          rfl
        refine take_ (i := 14) (N := some 32) (v := (.agg (nums .u8 p.2).toArray)) (a' := ?a45) #[true, true, true, true, true, true, true, true, true, true, true, true, true, true, true, false, false, false] rfl rfl (by kernel_rfl) (fun _ _ _ h => h) (Or.inl ⟨by rfl, fun w' s0 => loadD_run (.tmp 31) rfl _ rfl _ (pair_at s0.1 HP.out).2.2 (pair_at s0.1 HP.out).2.1⟩) hHeld ?ha45 ?hh45
        case ha45 =>
          simp only [Act.put, List.setIfInBounds_toArray, List.set_cons_zero, List.set_cons_succ]
          rfl
        refine take_ (i := 15) (N := some 33) (v := (.agg (nums .u8 d).toArray)) (a' := ?a46) #[true, true, true, true, true, true, true, true, true, true, true, true, true, true, true, true, false, false] rfl rfl (by kernel_rfl) (fun _ _ _ h => h) (Or.inl ⟨by rfl, fun w' s0 => loadB_run (.tmp 5) rfl b5 rfl _ HD.out.1 s0.2.1⟩) hHeld ?ha46 ?hh46
        case ha46 =>
          simp only [Act.put, List.setIfInBounds_toArray, List.set_cons_zero, List.set_cons_succ]
          rfl
        refine pure_ (i := 16) (N := some 34) (v := (.bool false)) (a' := ?a47) #[true, true, true, true, true, true, true, true, true, true, true, true, true, true, true, true, true, false] rfl rfl (by kernel_rfl) (fun _ _ _ h => h) (Or.inl ⟨by rfl, fun w' => eqlD_run _ (.tmp 32) (.tmp 33) rfl _ _ rfl rfl HPD.out HD.out false (decide_eq_false HDD.out)⟩) ?ha47 ?hh47
        case ha47 =>
          simp only [Act.put, List.setIfInBounds_toArray, List.set_cons_zero, List.set_cons_succ]
          rfl
        refine pure_ (i := 17) (N := some 35) (v := ?v48) (a' := ?a48) #[true, true, true, true, true, true, true, true, true, true, true, true, true, true, true, true, true, true] rfl rfl (by kernel_rfl) (fun _ _ _ h => h) (Or.inl ⟨by rfl, ?hy48⟩) ?ha48 ?hh48
        case hy48 =>
          intro w'
          go_simp
          with_reducible rfl
        case ha48 =>
          simp only [Act.put, List.setIfInBounds_toArray, List.set_cons_zero, List.set_cons_succ]
          rfl
        refine done_ (by kernel_rfl) ?_
        have HF := Aside0.mk hHeld
        clear hHeld
        go_wp2
        go_roundg (ps.length - (i + 1))
        case measure => clear hwn hvn; have := HI.out; have := HLT.out; omega
        case rel =>
          refine ⟨i + 1, ⟨by clear hwn hvn; have := HLT.out; omega, by clear hwn hvn; exact Nat.le_refl _⟩, by first | (with_reducible rfl) | (simp [hwn]; done) | go_num, ⟨HF.out.2.1⟩, ⟨HF.out.2.2⟩, ⟨?_⟩⟩
          obtain ⟨j, p', hij, hj, hj4, hn, hdd⟩ := HJ.out
          refine ⟨j, p', ?_, hj, hj4, hn, hdd⟩
          rcases Nat.lt_or_ge i j with h | h
          · exact h
          · have e2 : i = j := by clear hwn hvn; omega
            exfalso
            subst e2
            rw [HP.out] at hj; injection hj with hj; subst hj
            exact HDD.out hdd
    · have HNN := Aside0.mk hN
      clear hN
      refine start_ (n := 18) (S := fun w' => kP.C w' (some ad) ps.length ps ∧ w'.heap[b5]? = some (.cells (nums .u8 d).toArray 27 (0, 0)) ∧ Below w.heap.size w w') (ds := []) #[false, false, false, false, false, false, false, false, false, false, false, false, false, false, false, false, false, false] (by kernel_rfl) rfl rfl ⟨Kd.C_below HA.out (below_drew HB0.out), blk_drew B5.out, below_drew HB0.out⟩ (fun hHeld => ?_)
      refine pure_ (i := 0) (N := some 18) (v := ?v49) (a' := ?a49) #[true, false, false, false, false, false, false, false, false, false, false, false, false, false, false, false, false, false] rfl rfl (by kernel_rfl) (fun _ _ _ h => h) (Or.inl ⟨by rfl, ?hy49⟩) ?ha49 ?hh49
      case hy49 =>
        intro w'
        go_simp
        with_reducible rfl
      case ha49 =>
        simp only [Act.put, List.setIfInBounds_toArray, List.set_cons_zero, List.set_cons_succ]
        rfl
      refine pure_ (i := 1) (N := some 19) (v := ?v50) (a' := ?a50) #[true, true, false, false, false, false, false, false, false, false, false, false, false, false, false, false, false, false] rfl rfl (by kernel_rfl) (fun _ _ _ h => h) (Or.inl ⟨by rfl, ?hy50⟩) ?ha50 ?hh50
      case hy50 =>
        intro w'
        go_simp
        with_reducible rfl
      case ha50 =>
        simp only [Act.put, List.setIfInBounds_toArray, List.set_cons_zero, List.set_cons_succ]
        rfl
      refine pure_ (i := 2) (N := some 20) (v := (.pointer (some (ad.add (i * 33))))) (a' := ?a51) #[true, true, true, false, false, false, false, false, false, false, false, false, false, false, false, false, false, false] rfl rfl (by kernel_rfl) (fun _ _ _ h => h) (Or.inl ⟨by rfl, fun w' => idxP_run (.tmp 18) (.tmp 19) rfl ad ps.length cA i rfl rfl HLT.out⟩) ?ha51 ?hh51
      case ha51 =>
        simp only [Act.put, List.setIfInBounds_toArray, List.set_cons_zero, List.set_cons_succ]
        rfl
      refine pure_ (i := 3) (N := some 21) (v := (.pointer (some (ad.add (i * 33))))) (a' := ?a52) #[true, true, true, true, false, false, false, false, false, false, false, false, false, false, false, false, false, false] rfl rfl (by kernel_rfl) (fun _ _ _ h => h) (Or.inl ⟨by rfl, fun w' => fld0_run (.tmp 20) rfl _ rfl⟩) ?ha52 ?hh52
      case ha52 =>
        simp only [Act.put, List.setIfInBounds_toArray, List.set_cons_zero, List.set_cons_succ]
        rfl
      refine take_ (i := 4) (N := some 22) (v := (.int .i64 p.1)) (a' := ?a53) #[true, true, true, true, true, false, false, false, false, false, false, false, false, false, false, false, false, false] rfl rfl (by kernel_rfl) (fun _ _ _ h => h) (Or.inl ⟨by rfl, fun w' s0 => loadI_run (.tmp 21) rfl _ rfl _ (pair_at s0.1 HP.out).1⟩) hHeld ?ha53 ?hh53
      case ha53 =>
        simp only [Act.put, List.setIfInBounds_toArray, List.set_cons_zero, List.set_cons_succ]
        rfl
      refine pure_ (i := 6) (N := some 24) (v := ?v54) (a' := ?a54) #[true, true, true, true, true, false, true, false, false, false, false, false, false, false, false, false, false, false] rfl rfl (by kernel_rfl) (fun _ _ _ h => h) (Or.inl ⟨by rfl, ?hy54⟩) ?ha54 ?hh54
      case hy54 =>
        intro w'
        go_simp
        with_reducible rfl
      case ha54 =>
        simp only [Act.put, List.setIfInBounds_toArray, List.set_cons_zero, List.set_cons_succ]
        rfl
      refine one_ (i := 5) (N := some 23) #[true, true, true, true, true, true, true, false, false, false, false, false, false, false, false, false, false, false] rfl rfl (by kernel_rfl) (by decide) (fun K hK => ?_)
      refine goes_ Tryd.func9 (by kernel_rfl) rfl #[.int .i64 p.1] (by rfl) rfl rfl (by simp only [List.map_toArray, List.map_cons, List.map_nil]; rfl) ?_
      refine (name_calls p.1 _).mono ?_
      rintro e wc1 ⟨rfl, lc1⟩
      refine ⟨_, rfl, hK.out _ _ ⟨Kd.C_below hHeld.1 lc1, blk_below hHeld.2.1 lc1, below_step hHeld.2.2 lc1⟩ (fun hHeld => ?_)⟩
      clear hK K lc1
      refine norm_ (a' := ?a55) ?ha55 ?hh55
      case ha55 =>
        show Act.put _ (some 23) _ = _
        simp only [Act.put, List.setIfInBounds_toArray, List.set_cons_zero, List.set_cons_succ]
        rfl
      refine one_ (i := 7) (N := some 25) #[true, true, true, true, true, true, true, true, false, false, false, false, false, false, false, false, false, false] rfl rfl (by kernel_rfl) (by decide) (fun K hK => ?_)
      refine goes_ Tryd.func9 (by kernel_rfl) rfl #[.int .i64 k] (by rfl) rfl rfl (by simp only [List.map_toArray, List.map_cons, List.map_nil]; rfl) ?_
      refine (name_calls k _).mono ?_
      rintro e wc2 ⟨rfl, lc2⟩
      refine ⟨_, rfl, hK.out _ _ ⟨Kd.C_below hHeld.1 lc2, blk_below hHeld.2.1 lc2, below_step hHeld.2.2 lc2⟩ (fun hHeld => ?_)⟩
      clear hK K lc2
      refine norm_ (a' := ?a56) ?ha56 ?hh56
      case ha56 =>
        show Act.put _ (some 25) _ = _
        simp only [Act.put, List.setIfInBounds_toArray, List.set_cons_zero, List.set_cons_succ]
        rfl
      refine pure_ (i := 8) (N := some 26) (v := (.bool false)) (a' := ?a57) #[true, true, true, true, true, true, true, true, true, false, false, false, false, false, false, false, false, false] rfl rfl (by kernel_rfl) (fun _ _ _ h => h) (Or.inl ⟨by rfl, fun w' => eqlS_run _ _ (.tmp 23) (.tmp 25) rfl rfl _ _ rfl rfl false (decide_eq_false HNN.out)⟩) ?ha57 ?hh57
      case ha57 =>
        simp only [Act.put, List.setIfInBounds_toArray, List.set_cons_zero, List.set_cons_succ]
        rfl
      refine pure_ (i := 9) (N := some 27) (v := ?v58) (a' := ?a58) #[true, true, true, true, true, true, true, true, true, true, false, false, false, false, false, false, false, false] rfl rfl (by kernel_rfl) (fun _ _ _ h => h) (Or.inl ⟨by rfl, ?hy58⟩) ?ha58 ?hh58
      case hy58 =>
        intro w'
        go_simp
        with_reducible rfl
      case ha58 =>
        simp only [Act.put, List.setIfInBounds_toArray, List.set_cons_zero, List.set_cons_succ]
        rfl
      refine pure_ (i := 10) (N := some 28) (v := undef) (a' := ?a59) #[true, true, true, true, true, true, true, true, true, true, true, false, false, false, false, false, false, false] rfl rfl (by kernel_rfl) (fun _ _ _ h => h) (Or.inr ⟨by rfl, rfl⟩) ?ha59 ?hh59
      case ha59 =>
        simp only [Act.put, List.setIfInBounds_toArray, List.set_cons_zero, List.set_cons_succ]
        rfl
      refine pure_ (i := 11) (N := some 29) (v := undef) (a' := ?a60) #[true, true, true, true, true, true, true, true, true, true, true, true, false, false, false, false, false, false] rfl rfl (by kernel_rfl) (fun _ _ _ h => h) (Or.inr ⟨by rfl, rfl⟩) ?ha60 ?hh60
      case ha60 =>
        simp only [Act.put, List.setIfInBounds_toArray, List.set_cons_zero, List.set_cons_succ]
        rfl
      refine pure_ (i := 12) (N := some 30) (v := undef) (a' := ?a61) #[true, true, true, true, true, true, true, true, true, true, true, true, true, false, false, false, false, false] rfl rfl (by kernel_rfl) (fun _ _ _ h => h) (Or.inr ⟨by rfl, rfl⟩) ?ha61 ?hh61
      case ha61 =>
        simp only [Act.put, List.setIfInBounds_toArray, List.set_cons_zero, List.set_cons_succ]
        rfl
      refine pure_ (i := 13) (N := some 31) (v := undef) (a' := ?a62) #[true, true, true, true, true, true, true, true, true, true, true, true, true, true, false, false, false, false] rfl rfl (by kernel_rfl) (fun _ _ _ h => h) (Or.inr ⟨by rfl, rfl⟩) ?ha62 ?hh62
      case ha62 =>
        simp only [Act.put, List.setIfInBounds_toArray, List.set_cons_zero, List.set_cons_succ]
        rfl
      refine pure_ (i := 14) (N := some 32) (v := undef) (a' := ?a63) #[true, true, true, true, true, true, true, true, true, true, true, true, true, true, true, false, false, false] rfl rfl (by kernel_rfl) (fun _ _ _ h => h) (Or.inr ⟨by rfl, rfl⟩) ?ha63 ?hh63
      case ha63 =>
        simp only [Act.put, List.setIfInBounds_toArray, List.set_cons_zero, List.set_cons_succ]
        rfl
      refine pure_ (i := 15) (N := some 33) (v := undef) (a' := ?a64) #[true, true, true, true, true, true, true, true, true, true, true, true, true, true, true, true, false, false] rfl rfl (by kernel_rfl) (fun _ _ _ h => h) (Or.inr ⟨by rfl, rfl⟩) ?ha64 ?hh64
      case ha64 =>
        simp only [Act.put, List.setIfInBounds_toArray, List.set_cons_zero, List.set_cons_succ]
        rfl
      refine pure_ (i := 16) (N := some 34) (v := undef) (a' := ?a65) #[true, true, true, true, true, true, true, true, true, true, true, true, true, true, true, true, true, false] rfl rfl (by kernel_rfl) (fun _ _ _ h => h) (Or.inr ⟨by rfl, rfl⟩) ?ha65 ?hh65
      case ha65 =>
        simp only [Act.put, List.setIfInBounds_toArray, List.set_cons_zero, List.set_cons_succ]
        rfl
      refine pure_ (i := 17) (N := some 35) (v := ?v66) (a' := ?a66) #[true, true, true, true, true, true, true, true, true, true, true, true, true, true, true, true, true, true] rfl rfl (by kernel_rfl) (fun _ _ _ h => h) (Or.inl ⟨by rfl, ?hy66⟩) ?ha66 ?hh66
      case hy66 =>
        intro w'
        go_simp
        with_reducible rfl
      case ha66 =>
        simp only [Act.put, List.setIfInBounds_toArray, List.set_cons_zero, List.set_cons_succ]
        rfl
      refine done_ (by kernel_rfl) ?_
      have HF := Aside0.mk hHeld
      clear hHeld
      go_wp2
      go_roundg (ps.length - (i + 1))
      case measure => clear hwn hvn; have := HI.out; have := HLT.out; omega
      case rel =>
        refine ⟨i + 1, ⟨by clear hwn hvn; have := HLT.out; omega, by clear hwn hvn; exact Nat.le_refl _⟩, by first | (with_reducible rfl) | (simp [hwn]; done) | go_num, ⟨HF.out.2.1⟩, ⟨HF.out.2.2⟩, ⟨?_⟩⟩
        obtain ⟨j, p', hij, hj, hj4, hn, hdd⟩ := HJ.out
        refine ⟨j, p', ?_, hj, hj4, hn, hdd⟩
        rcases Nat.lt_or_ge i j with h | h
        · exact h
        · have e2 : i = j := by clear hwn hvn; omega
          exfalso
          subst e2
          rw [HP.out] at hj; injection hj with hj; subst hj
          exact HNN.out hn
end Go.Proofs.YtoigoiefnapokaaDoor.T
