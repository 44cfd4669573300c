/- (*keys.Ring).Names of a ring that has a name: how many. -/
import Derived.Test.YtoigoiefnapokaaDoorGKHas
import Derived.Test.YtoigoiefnapokaaDoorGKJoin
import Derived.Test.YtoigoiefnapokaaDoorGLayS
import Derived.Maps.RangeWalk
import Derived.Sort.KeysCollected
import Derived.Shelf.SortM.Plain
set_option linter.unusedVariables false
set_option linter.unusedSimpArgs false
namespace Go.Proofs.YtoigoiefnapokaaDoor.T
open Go.RowKit Go.Maps Go.MuLone Go.Shelf Go.Sort Go.Proofs.YtoigoiefnapokaaDoorW.PrintWords Go.Proofs.YtoigoiefnapokaaDoorW.PrintLast
def kS : Kd (List UInt8) := Kd.scalar encStr (fun _ => rfl)
theorem infoSt : (Tryd.prog.info? 9).map (fun i => (i.zero, i.size, i.bytes)) = some (some (.string ⟨#[]⟩), 1, 16) := by kernel_rfl
theorem strKeys_len {P : Program} {k : TypeId} {R : Value → Option (DataW Value × List MemPlace)} {w : World} {b n : Nat} {D : DataW Value} (h : w.ownsMap P k R b n D) : (strKeys D).length = Maps.size D := by
  obtain ⟨es, rfl, _⟩ := h.keysOf
  simp [strKeys, Maps.size_eq]
theorem ranges_same' {P : Program} {k : TypeId} {R : Value → Option (DataW Value × List MemPlace)} {b r n cnt : Nat} {D : DataW Value} {left : Lit → Bool} {w w' : World} (h : w.ranges P k R b r n D left cnt) (hb : w'.heap[b]? = w.heap[b]?) (hr : w'.heap[r]? = w.heap[r]?) : w'.ranges P k R b r n D left cnt := by
  obtain ⟨es, clock, since, seen, c0, h1, F, hs, hD, h2, rest⟩ := h
  exact ⟨es, clock, since, seen, c0, hb.trans h1, F, hs, hD, hr.trans h2, rest⟩
theorem fresh_ne' {r n k : Nat} (h : r < n) (hk : n ≤ k) : k ≠ r := by omega
theorem grownBy_sortedS {w : World} {g n : Nat} {os : Array Obj} (d : Array (List UInt8)) : w.grownBy (grow (putRow encStr (Sort.ahead w n) g 0 d) os) (some g) := by
  refine ⟨rfl, rfl, rfl, by simp, fun k hk hne => ?_⟩
  rw [heap_grow_old _ _ (by simpa using hk)]
  have : g ≠ k := fun e => hne (by rw [e])
  simp [putRow, mapBlock, Sort.ahead, Array.getElem?_modify, this]
theorem holds_kS {w : World} {base g cap : Nat} {ok : Nat → Prop} {ss : List (List UInt8)} (h : kS.R 9 w base ok (.slice (some ⟨g, 0, none⟩) ss.length cap) ss) : Holds encStr w g 0 ss.toArray := by
  intro j hj
  have hj' : j < ss.length := by simpa using hj
  have := Kd.R_cell (d := []) h (j : Int) (by omega) (by omega)
  rw [Nat.zero_add]
  have e1 : ss.toArray[j]! = ss[j] := by rw [getElem!_pos ss.toArray j hj]; rfl
  have e2 : rdOf [] ss (j : Int) = ss[j] := by simp [rdOf, List.getD_eq_getElem?_getD, List.getElem?_eq_getElem hj']
  rw [e1, ← e2]
  exact this
/-- slices.Sort at a row of strings of the call's own. -/
theorem sortS_calls (g cap : Nat) (ss : List (List UInt8)) (w : World) (base : Nat) {ok : Nat → Prop} (hR : kS.R 9 w base ok (.slice (some ⟨g, 0, none⟩) ss.length cap) ss) (hlen : ss.length < 4611686018427387904) :
    Calls Tryd.prog 28 #[.slice (some ⟨g, 0, none⟩) ss.length cap] w fun e w' => e = .returned (.tuple #[]) ∧ w.grownBy w' (some g) := by
  have hlt := Kd.R_lt hR g (by simp [Value.ownBlock])
  refine (AnyM.slices_Sort_string (P := Tryd.prog) (ρ := Tryd.sS_ren) Tryd.sS g 0 cap ss w (holds_kS hR) hlt hlen).mono ?_
  rintro e w' ⟨rfl, n, os, rfl⟩
  exact ⟨rfl, grownBy_sortedS _⟩
set_option maxHeartbeats 8000000 in
set_option maxRecDepth 100000 in
theorem nlist_calls (w : World) (x : RV) (base : Nat) (hx : x.At w base 0) (hn : x.nk ≤ 100000) (hp : 0 < Maps.size x.Dk) :
    Calls Tryd.prog 16 #[.pointer (some ⟨x.b, 0, none⟩)] w fun e w' => ∃ (A : Option Addr) (c : Nat), e = .returned (.slice A (Maps.size x.Dk) c) ∧ Below w.heap.size w w' := by
  have HX := Aside0.mk hx
  have HN := Aside0.mk hn
  have HP := Aside0.mk hp
  have hu63 := Tryd.underlying66
  clear hx hn hp
  go_enter_defers Tryd.func16, Tryd.ntmps16
  go_wp2_with (first
    | (go_at_call 25; go_loud (refine (lock_free muLib ⟨x.b, 0, none⟩ _ HX.out.c0 (blk_frozen HX.out.blk 0)).mono ?_; rintro e w3 ⟨rfl, hw3⟩; have HW3 := Aside0.mk hw3; have X3 := Aside0.mk (show x.At w3 base 1 by rw [hw3]; exact HX.out.lock 1); have c3 := X3.out.c3; clear hw3))
    | (at_range; go_loud (refine wpList_range_own _ rfl (.tmp 15) 63 rfl 9 27 lawS Tryd.underlying63 RD x.bk x.nk x.Dk rfl X3.out.keys ?_; intro w4 hrg0 hg0 hs0; obtain ⟨r, hr⟩ : ∃ r, w3.heap.size = r := ⟨_, rfl⟩; rw [hr] at hrg0 ⊢; have HRG0 := Aside0.mk hrg0; have HG0 := Aside0.mk hg0; have HSR := Aside0.mk hr; clear hrg0 hg0 hs0 hr)))
  go_frame
  clear c3
  go_loopg [3] x.nk (fun gg s3 wr => ∃ (left : Lit → Bool) (cnt : Nat) (ss : List (List UInt8)), Aside0 (cnt ≤ gg ∧ ss.length + cnt ≤ x.nk) ∧ Aside0 (wr.ranges Tryd.prog 9 RD x.bk r x.nk x.Dk left cnt) ∧ Aside0 (kS.R 9 wr w3.heap.size (fun k => k ≠ r) s3 ss) ∧ Aside0 (Collected x.Dk left ss) ∧ Aside0 (Below w3.heap.size w3 wr))
  case atStart => exact ⟨_, _, [], ⟨X3.out.keys.size_le, by simpa using X3.out.keys.size_le⟩, HRG0, ⟨Kd.R_nil _ _ _ _ _⟩, ⟨Collected.start _⟩, ⟨HG0.out.os, HG0.out.tape, HG0.out.output, HG0.out.size, fun k hk => HG0.out.block k hk (by simp)⟩⟩
  case round =>
    obtain ⟨left, cnt, ss, HC, HRG, HR, HM, HB⟩ := hrel
    go_wp2_with (at_next; go_loud (refine wpList_next_ranges _ rfl (.tmp 16) rfl 9 lawS RD (fun v : Value => v) (fun v : Value => v) (fun key _ _ => ⟨key, rfl⟩) (fun v _ _ => ⟨v, rfl⟩) x.bk r x.nk x.Dk left cnt rfl HRG.out ?_ ?_))
    · intro hc0 hl0
      have hperm := HM.out.perm X3.out.keys lawS Tryd.underlying9 hl0
      have hl : ss.length = Maps.size x.Dk := by rw [hperm.length_eq, strKeys_len X3.out.keys]
      have HLN := Aside0.mk hl
      obtain ⟨g, cap, hv, hgb, _, _⟩ := Kd.R_form HR.out (by rw [hl]; exact HP.out)
      subst hv
      have HGB := Aside0.mk hgb
      have hsc := sortS_calls g cap ss wr w3.heap.size HR.out (by have := HC.out.2; have := HN.out; omega)
      clear hc0 hl0 hperm hl hgb
      go_wp2_with (go_at_call 28; go_loud (refine hsc.mono ?_; rintro e w6 ⟨rfl, hg6⟩; have HG6 := Aside0.mk hg6; clear hg6 hsc))
      have XE := Aside0.mk ((X3.out.below HB.out).grown X3.out.under HG6.out (fun k hk => by cases hk; exact HGB.out))
      have HB6 := Aside0.mk (pw_below_grown HB.out _ HB.out.size HG6.out (fun k hk => by cases hk; exact HGB.out))
      refine leaves_cons (f := 26) (args := #[.pointer (some ⟨x.b, 0, none⟩)]) (by simp) (by simp [go_sem]) ?_
      refine (unlock_deferred muLib ⟨x.b, 0, none⟩ .returning _ XE.out.c0 (blk_frozen XE.out.blk 0)).mono ?_
      rintro e u' w'' ⟨rfl, rfl, rfl⟩
      exact ⟨_, results_tmp rfl _ _ _, some ⟨g, 0, none⟩, cap, (by rw [← HLN.out]; rfl), lock_back (Below.refl _ _) (HW3.out ▸ HB6.out) HX.out.blk (XE.out.lock 0).blk⟩
    · intro key c kl yd yp w5 cnt5 hkey hlk hv hat hrg5 hlt hg5 hs5 hen
      obtain ⟨s, rfl, rfl, _⟩ := Maps.keyOf_str Tryd.underlying9 hkey
      have HLT := Aside0.mk hlt
      have HRG5 := Aside0.mk hrg5
      have HB5 := Aside0.mk (pw_below_grown HB.out _ HB.out.size hg5 (fun k hk => by cases hk; exact Nat.le_of_eq HSR.out))
      have HR5 := Aside0.mk (Kd.R_grown HR.out hg5 (fun k hk e => hk (by cases e; rfl)))
      have HM5 := Aside0.mk (HM.out.step hlk hat)
      have HLEN := Aside0.mk (show (ss.length + 1) * 16 ≤ 140737488355328 by have := HC.out.2; have := HN.out; omega)
      have HRL5 := Aside0.mk HRG5.out.lt
      clear hkey hlk hv hat hrg5 hlt hg5 hs5
      go_wp2_with (first
        | ((with_reducible refine gate_builtin (b := .append) (xs := #[.tmp 21, .tmp 23]) rfl ?_); at_builtin; go_loud (refine Kd.R_append kS (w0 := w3) w3.heap.size rfl (.tmp 21) (.tmp 23) 41 9 (.string ⟨#[]⟩) 16 rfl Tryd.underlying41 infoSt (by rfl) (by decide) (by decide) u3 ss s [encStr s] (fun k => k ≠ r) (fun _ => False) rfl rfl ?e4 (fun k hk => hk.elim) ?e5 ?e6 ?e7 ?e8 ?e9 ?_; (case e4 => exact rfl); (case e5 => exact fun k hk => fresh_ne' HRL5.out hk); (case e6 => exact HR5.out); (case e7 => exact HB5.out); (case e8 => exact HB5.out.size); (case e9 => exact HLEN.out); intro v9 w9 hr9 hb9 hg9 _; have HR9 := Aside0.mk hr9; have HB9 := Aside0.mk hb9; have HG9 := Aside0.mk hg9; clear hr9 hb9 hg9)))
      go_roundg cnt5
      case measure => have := HC.out.1; have := HLT.out; omega
      case rel => exact ⟨_, cnt5, ss ++ [s], ⟨Nat.le_refl _, by rw [List.length_append, List.length_singleton]; have := HC.out.2; have := HLT.out; omega⟩, ⟨ranges_same' HRG5.out (HG9.out.block _ HRG5.out.owns.lt (fun e => by have := Kd.R_base HR5.out _ e.symm; have := X3.out.keys.lt; omega)) (HG9.out.block _ HRG5.out.lt (fun e => HR5.out.1 _ e.symm rfl))⟩, HR9, HM5, HB9⟩
end Go.Proofs.YtoigoiefnapokaaDoor.T
