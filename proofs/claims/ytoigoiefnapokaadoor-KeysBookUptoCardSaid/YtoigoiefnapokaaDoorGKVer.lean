/- The walk of (*keys.Ring).Verify. -/
import Derived.Test.YtoigoiefnapokaaDoorGKRing
set_option linter.unusedVariables false
set_option linter.unusedSimpArgs false
namespace Go.Proofs.YtoigoiefnapokaaDoor.T
open Go.RowKit Go.Maps Go.MuLone Go.Proofs.YtoigoiefnapokaaDoorW.PrintWords Go.Proofs.YtoigoiefnapokaaDoorW.PrintLast
theorem set_far {w : World} {b c off : Nat} {v : Value} {o : Option Obj} (h : w.heap[c]? = o) (hn : c ≠ b) : (w.setCell ⟨b, off, none⟩ v).heap[c]? = o := (Below.heap_setCell w ⟨b, off, none⟩ v c hn).trans h
theorem zeroD_is : IsD zeroD := ⟨rfl, fun x hx => by have := List.eq_of_mem_replicate hx; omega⟩
section
variable {ops : Array Oper} {op : Oper} {a : Act}
theorem build_yields {s : ByteArray} {d : List Int} (hd : d.length = 32) (hw : Region.wanted op (yielded ops a.tmps) = true) (x y : Operand) (ho : op.op = .build 69 #[(0, x), (1, y)]) (hx : a.eval x = .string s) (hy : a.eval y = .agg (nums .u8 d).toArray) : Yields Tryd.prog ops op (pairV s d) a := by
  refine Or.inl ⟨hw, fun w => ?_⟩
  unfold execOp
  simp only [ho, Sem.run_bind, List.map_toArray, List.map_cons, List.map_nil, hx, hy, build_pair s d hd w, Result.andThen_ok]
  rfl
theorem lookup_yields {S : World → Prop} {t : TypeId} {v vm vk : Value} (hw : Region.wanted op (yielded ops a.tmps) = true) (m k : Operand) (ho : op.op = .lookup t m k true) (hm : a.eval m = vm) (hk : a.eval k = vk) (h : ∀ w, S w → (Instr.lookup t vm vk true).run Tryd.prog w = .ok v w) : YieldsIf Tryd.prog ops S op v a := by
  refine Or.inl ⟨hw, fun w hS => ?_⟩
  unfold execOp
  simp only [ho, Sem.run_bind, hm, hk, h w hS, Result.andThen_ok]
  rfl
end
/-- The lock is taken and let go: nothing that was there has turned. -/
theorem lock_back {w w2 w4 : World} {b : Nat} {o : Obj} {u v : Value} (h2 : Below w.heap.size w w2) (h4 : Below (w2.setCell ⟨b, 0, none⟩ u).heap.size (w2.setCell ⟨b, 0, none⟩ u) w4) (ho : w.heap[b]? = some o) (he : (w4.setCell ⟨b, 0, none⟩ v).heap[b]? = some o) :
    Below w.heap.size w (w4.setCell ⟨b, 0, none⟩ v) := by
  have s2 : Below 0 w2 (w2.setCell ⟨b, 0, none⟩ u) := (Below.refl 0 w2).setCell (Nat.zero_le _) u
  have s4 : Below 0 w4 (w4.setCell ⟨b, 0, none⟩ v) := (Below.refl 0 w4).setCell (Nat.zero_le _) v
  refine ⟨?_, ?_, ?_, ?_, fun k hk => ?_⟩
  · exact s4.os.trans (h4.os.trans (s2.os.trans h2.os))
  · exact s4.tape.trans (h4.tape.trans (s2.tape.trans h2.tape))
  · exact s4.output.trans (h4.output.trans (s2.output.trans h2.output))
  · have := h2.size; have := h4.size; simp at this ⊢; omega
  · by_cases e : k = b
    · subst e; rw [he, ho]
    · have hs := h2.size
      rw [Below.heap_setCell w4 ⟨b, 0, none⟩ v k e, h4.block k (by simp; omega), Below.heap_setCell w2 ⟨b, 0, none⟩ u k e, h2.block k hk]
set_option maxHeartbeats 8000000 in
set_option maxRecDepth 100000 in
theorem verify_calls (w : World) (x : RV) (base : Nat) (hx : x.At w base 0) (f : ByteArray × List Int → Option (List Int)) (hf : Says x.Ds klP okP f) (hfd : ∀ a v, f a = some v → IsD v) (s : ByteArray) (ho : okS s) (d sl : List Int) (hd : IsD d) (hs : IsD sl) :
    Calls Tryd.prog 10 #[.pointer (some ⟨x.b, 0, none⟩), .string s, digV d, digV sl] w fun e w' => e = .returned (.bool (decide (f (s, d) = some sl))) ∧ Below w.heap.size w w' := by
  have HX := Aside0.mk hx
  have HF := Aside0.mk hf
  have HFD := Aside0.mk hfd
  have HO := Aside0.mk ho
  have HD := Aside0.mk hd
  have HS := Aside0.mk hs
  have hu63 := Tryd.underlying66
  clear hx hf hfd ho hd hs
  unfold digV
  go_enter_defers Tryd.func10, Tryd.ntmps10
  have hbp := build_pair s d HD.out.1
  go_wp2_with (first
    | ((with_reducible refine gate_dst (N := 6) rfl ?_); refine box_event ?hg (N := 6) ?hd (cs := (nums .u8 d).toArray) (t := 27) ?hr ?_; (case hd => rfl); (case hg => rfl); (case hr => first | (go_simp; done) | (go_simp; rfl)); intro b6 hb6 w1 hbox hbl; have B6 := Aside0.mk hbox; have HB1 := Aside0.mk hbl; have X1 := Aside0.mk (HX.out.below hbl); have G6 := Aside0.mk (show w.heap.size ≤ b6 by omega); clear hb6 hbox hbl)
    | ((with_reducible refine gate_dst (N := 7) rfl ?_); refine box_event ?hg (N := 7) ?hd (cs := (nums .u8 sl).toArray) (t := 27) ?hr ?_; (case hd => rfl); (case hg => rfl); (case hr => first | (go_simp; done) | (go_simp; rfl)); intro b7 hb7 w2 hbox hbl; have B7 := Aside0.mk hbox; have HB2 := Aside0.mk (below_step HB1.out hbl); have B62 := Aside0.mk (blk_below B6.out hbl); have X2 := Aside0.mk (X1.out.below hbl); have N67 := Aside0.mk (show b6 < b7 by have := blk_lt B6.out; omega); have G7 := Aside0.mk (show w.heap.size ≤ b7 by have := HB1.out.size; omega); clear hb7 hbox hbl)
    | (go_at_call 25; go_loud (refine (lock_free muLib ⟨x.b, 0, none⟩ _ X2.out.c0 (blk_frozen X2.out.blk 0)).mono ?_; rintro e w3 ⟨rfl, hw3⟩; have HW3 := Aside0.mk hw3; have X3 := Aside0.mk (show x.At w3 base 1 by rw [hw3]; exact X2.out.lock 1); have B63 := Aside0.mk (show w3.heap[b6]? = some (.cells (nums .u8 d).toArray 27 (0, 0)) by rw [hw3]; exact set_far B62.out (by have := blk_lt HX.out.blk; have := G6.out; omega)); have B73 := Aside0.mk (show w3.heap[b7]? = some (.cells (nums .u8 sl).toArray 27 (0, 0)) by rw [hw3]; exact set_far B7.out (by have := blk_lt HX.out.blk; have := G7.out; omega)); clear hw3)))
  have HI27 := Aside0.mk (show (Tryd.prog.info? 27).map (·.size) = some (nums IntKind.u8 d).length by rw [nums_length, HD.out.1]; kernel_rfl)
  refine wp_region_noPanic ?_
  refine start_ (n := 14) (S := fun w' => x.At w' base 1 ∧ w'.heap[b6]? = some (.cells (nums .u8 d).toArray 27 (0, 0)) ∧ w'.heap[b7]? = some (.cells (nums .u8 sl).toArray 27 (0, 0)) ∧ Below w3.heap.size w3 w') (ds := [12]) #[false, false, false, false, false, false, false, false, false, false, false, false, false, false] (by kernel_rfl) rfl rfl ⟨X3.out.drew, blk_drew B63.out, blk_drew B73.out, below_drew (Below.refl _ _)⟩ (fun hHeld => ?_)
  refine pure_ (i := 0) (N := some 19) (v := ?v1) (a' := ?a1) #[true, false, false, false, false, false, false, false, false, false, false, false, false, false] rfl rfl (by kernel_rfl) (fun _ _ _ h => h) (Or.inl ⟨by rfl, ?hy1⟩) ?ha1 ?hh1
  case hy1 =>
    intro w'
    go_simp
    with_reducible rfl
  case ha1 =>
    simp only [Act.put, List.setIfInBounds_toArray, List.set_cons_zero, List.set_cons_succ]
    rfl
  refine pure_ (i := 1) (N := some 20) (v := ?v2) (a' := ?a2) #[true, true, false, false, false, false, false, false, false, false, false, false, false, false] rfl rfl (by kernel_rfl) (fun _ _ _ h => h) (Or.inl ⟨by rfl, ?hy2⟩) ?ha2 ?hh2
  case hy2 =>
    intro w'
    go_simp
    with_reducible rfl
  case ha2 =>
    simp only [Act.put, List.setIfInBounds_toArray, List.set_cons_zero, List.set_cons_succ]
    rfl
  refine pure_ (i := 2) (N := some 21) (v := ?v3) (a' := ?a3) #[true, true, true, false, false, false, false, false, false, false, false, false, false, false] rfl rfl (by kernel_rfl) (fun _ _ _ h => h) (Or.inl ⟨by rfl, ?hy3⟩) ?ha3 ?hh3
  case hy3 =>
    intro w'
    go_simp
    with_reducible rfl
  case ha3 =>
    simp only [Act.put, List.setIfInBounds_toArray, List.set_cons_zero, List.set_cons_succ]
    rfl
  refine take_ (i := 3) (N := some 22) (v := ?v4) (a' := ?a4) #[true, true, true, true, false, false, false, false, false, false, false, false, false, false] rfl rfl (by kernel_rfl) (fun _ _ _ h => h) (Or.inl ⟨by rfl, ?hy4⟩) hHeld ?ha4 ?hh4
  case hy4 =>
    intro w' s0
    have q := s0.1.c4
    go_simp
    with_reducible rfl
  case ha4 =>
    simp only [Act.put, List.setIfInBounds_toArray, List.set_cons_zero, List.set_cons_succ]
    rfl
  refine pure_ (i := 4) (N := some 23) (v := ?v5) (a' := ?a5) #[true, true, true, true, true, false, false, false, false, false, false, false, false, false] rfl rfl (by kernel_rfl) (fun _ _ _ h => h) (Or.inl ⟨by rfl, ?hy5⟩) ?ha5 ?hh5
  case hy5 =>
    intro w'
    go_simp
    with_reducible rfl
  case ha5 =>
    simp only [Act.put, List.setIfInBounds_toArray, List.set_cons_zero, List.set_cons_succ]
    rfl
  refine take_ (i := 5) (N := some 24) (v := .agg (List.toArray (nums .u8 d))) (a' := ?a6) #[true, true, true, true, true, true, false, false, false, false, false, false, false, false] rfl rfl (by kernel_rfl) (fun _ _ _ h => h) (yieldsIf_load_mid (by rfl) 27 (.tmp 6) rfl b6 0 rfl (nums .u8 d) _ (fun w' s0 => (fun j v hj => by rw [Nat.zero_add]; exact arr_cell s0.2.1 j hj)) Tryd.underlying27 rfl HI27.out) hHeld ?ha6 ?hh6
  case ha6 =>
    simp only [Act.put, List.setIfInBounds_toArray, List.set_cons_zero, List.set_cons_succ]
    rfl
  refine pure_ (i := 6) (N := some 25) (v := (pairV s d)) (a' := ?a7) #[true, true, true, true, true, true, true, false, false, false, false, false, false, false] rfl rfl (by kernel_rfl) (fun _ _ _ h => h) (build_yields HD.out.1 (by rfl) (.tmp 23) (.tmp 24) rfl rfl rfl) ?ha7 ?hh7
  case ha7 =>
    simp only [Act.put, List.setIfInBounds_toArray, List.set_cons_zero, List.set_cons_succ]
    rfl
  refine take_ (i := 7) (N := some 26) (v := (.tuple #[digV ((f (s, d)).getD zeroD), .bool (f (s, d)).isSome])) (a' := ?a8) #[true, true, true, true, true, true, true, true, false, false, false, false, false, false] rfl rfl (by kernel_rfl) (fun _ _ _ h => h) (lookup_yields (by rfl) (.tmp 22) (.tmp 25) rfl rfl rfl (fun w' s0 => look_signed s0.1.signed HF.out HO.out HD.out)) hHeld ?ha8 ?hh8
  case ha8 =>
    simp only [Act.put, List.setIfInBounds_toArray, List.set_cons_zero, List.set_cons_succ]
    rfl
  refine pure_ (i := 8) (N := some 18) (v := ?v9) (a' := ?a9) #[true, true, true, true, true, true, true, true, true, false, false, false, false, false] rfl rfl (by kernel_rfl) (fun _ _ _ h => h) (Or.inl ⟨by rfl, ?hy9⟩) ?ha9 ?hh9
  case hy9 =>
    intro w'
    go_simp
    with_reducible rfl
  case ha9 =>
    simp only [Act.put, List.setIfInBounds_toArray, List.set_cons_zero, List.set_cons_succ]
    rfl
  refine pure_ (i := 9) (N := some 27) (v := ?v10) (a' := ?a10) #[true, true, true, true, true, true, true, true, true, true, false, false, false, false] rfl rfl (by kernel_rfl) (fun _ _ _ h => h) (Or.inl ⟨by rfl, ?hy10⟩) ?ha10 ?hh10
  case hy10 =>
    intro w'
    go_simp
    with_reducible rfl
  case ha10 =>
    simp only [Act.put, List.setIfInBounds_toArray, List.set_cons_zero, List.set_cons_succ]
    rfl
  refine pure_ (i := 10) (N := some 28) (v := ?v11) (a' := ?a11) #[true, true, true, true, true, true, true, true, true, true, true, false, false, false] rfl rfl (by kernel_rfl) (fun _ _ _ h => h) (Or.inl ⟨by rfl, ?hy11⟩) ?ha11 ?hh11
  case hy11 =>
    intro w'
    go_simp
    with_reducible rfl
  case ha11 =>
    simp only [Act.put, List.setIfInBounds_toArray, List.set_cons_zero, List.set_cons_succ]
    rfl
  refine one_ (i := 11) (N := some 9) #[true, true, true, true, true, true, true, true, true, true, true, true, false, false] rfl rfl (by kernel_rfl) (by decide) (fun K hK => ?_)
  refine box_step (by rfl) (N := 9) rfl (cs := (nums .u8 zeroD).toArray) (t := 27) ?hr9 ?hc9
  case hr9 => first | (go_simp; done) | (go_simp; rfl)
  intro b9 hb9 w4 hbox hbl
  have B9 := Aside0.mk hbox
  have LB := Aside0.mk hbl
  have N9 := Aside0.mk (And.intro (show x.b ≠ b9 by have := blk_lt hHeld.1.blk; omega) (And.intro (show b7 ≠ b9 by have := blk_lt hHeld.2.2.1; omega) (show w3.heap.size ≤ b9 by have := hHeld.2.2.2.size; omega)))
  clear hb9 hbox hbl
  refine hK.out _ _ ⟨hHeld.1.below LB.out, blk_below hHeld.2.1 LB.out, blk_below hHeld.2.2.1 LB.out, below_step hHeld.2.2.2 LB.out⟩ (fun hHeld => ?_)
  clear hK K LB
  refine norm_ (a' := ?a12) ?ha12 ?hh12
  case ha12 =>
    show Act.put _ (some 9) _ = _
    simp only [Act.put, List.setIfInBounds_toArray, List.set_cons_zero, List.set_cons_succ]
    rfl
  obtain ⟨v9, hv9⟩ : ∃ v, (f (s, d)).getD zeroD = v := ⟨_, rfl⟩
  have HV9 := Aside0.mk hv9
  have HD9 := Aside0.mk (show IsD v9 by rw [← hv9]; cases hfo : f (s, d) with | none => exact zeroD_is | some v => exact HFD.out _ _ hfo)
  obtain ⟨h27, h32, h1c⟩ := digest_facts HD9.out.1
  rw [hv9]
  clear hv9
  refine last_ (i := 12) (N := none) #[true, true, true, true, true, true, true, true, true, true, true, true, true, false] rfl rfl (by kernel_rfl) (by decide) (fun K hK => ?_)
  rw [if_pos (by rfl)]
  refine wp_store_row 27 (.tmp 9) (.tmp 27) rfl b9 (nums .u8 v9).toArray rfl rfl 27 _ B9.out h27 (by rw [h32]; rfl) h1c ?_
  have X5 := Aside0.mk (hHeld.1.keep (keep_row (KeepBut.refl _ b9 none) (nums .u8 v9).toArray) N9.out.1 (map_cells hHeld.1.keys B9.out) (map_cells hHeld.1.signed B9.out) (fun ad had hp => by have := reads_far X3.out.reads ad had hp; have := N9.out.2.2; omega))
  have B95 := Aside0.mk (setRow_heap _ b9 _ (nums .u8 v9).toArray _ _ B9.out)
  have B75 := Aside0.mk ((setRow_other _ b9 b7 (nums .u8 v9).toArray N9.out.2.1).trans hHeld.2.2.1)
  have HB5 := Aside0.mk (below_row hHeld.2.2.2 N9.out.2.2 (nums .u8 v9).toArray)
  generalize w4.setRow b9 (nums .u8 v9).toArray = w5 at X5 B95 B75 HB5 ⊢
  refine hK.out _ _ ?_
  clear hK K hHeld
  refine norm_ (a' := ?an) ?hn ?hm
  case hn =>
    show Act.put _ none _ = _
    simp only [Act.put]
    rfl
  obtain ⟨ok, hok⟩ : ∃ b, (f (s, d)).isSome = b := ⟨_, rfl⟩
  have HOK := Aside0.mk hok
  rw [hok]
  clear hok
  refine pure_ (i := 13) (N := some 10) (v := ?v13) (a' := ?a13) #[true, true, true, true, true, true, true, true, true, true, true, true, true, true] rfl rfl (by kernel_rfl) (fun _ _ _ h => h) (Or.inl ⟨by rfl, ?hy13⟩) ?ha13 ?hh13
  case hy13 =>
    intro w'
    go_simp
    with_reducible rfl
  case ha13 =>
    simp only [Act.put, List.setIfInBounds_toArray, List.set_cons_zero, List.set_cons_succ]
    rfl
  refine done_ (by kernel_rfl) ?_
  refine NoPanic.normal ?_
  have hq := fun w => eql_dig HD9.out HS.out w
  unfold digV at hq
  have hgd : Tryd.prog.eqGuardType Tryd.prog.depth 27 = false := by kernel_rfl
  have HIV := Aside0.mk (show (Tryd.prog.info? 27).map (·.size) = some (nums IntKind.u8 v9).toArray.size from h27)
  have HIS := Aside0.mk (show (Tryd.prog.info? 27).map (·.size) = some (nums IntKind.u8 sl).toArray.size from (digest_facts HS.out.1).1)
  clear h27 h32 h1c
  cases ok
  · go_wp2
    refine leaves_cons (f := 26) (args := #[.pointer (some ⟨x.b, 0, none⟩)]) (by simp) (by simp [go_sem]) ?_
    refine (unlock_deferred muLib ⟨x.b, 0, none⟩ .returning _ X5.out.c0 (blk_frozen X5.out.blk 0)).mono ?_
    rintro e u' w'' ⟨rfl, rfl, rfl⟩
    refine ⟨_, results_tmp rfl _ _ _, ?_, lock_back HB2.out (HW3.out ▸ HB5.out) HX.out.blk (X5.out.lock 0).blk⟩
    have e : f (s, d) = none := by have h := HOK.out; cases hfo : f (s, d) with | none => rfl | some v => rw [hfo] at h; cases h
    rw [e]
    simp
  · go_wp2_with (first
      | ((with_reducible refine gate_dst (N := 31) rfl ?_); refine gate_guard (by rfl) ?_; dsimp only; refine wpList_load_row rfl 27 (.tmp 9) rfl b9 rfl 27 (nums .u8 v9).toArray (0, 0) _ B95.out Tryd.underlying27 rfl HIV.out ?_)
      | ((with_reducible refine gate_dst (N := 32) rfl ?_); refine gate_guard (by rfl) ?_; dsimp only; refine wpList_load_row rfl 27 (.tmp 7) rfl b7 rfl 27 (nums .u8 sl).toArray (0, 0) _ B75.out Tryd.underlying27 rfl HIS.out ?_))
    refine leaves_cons (f := 26) (args := #[.pointer (some ⟨x.b, 0, none⟩)]) (by simp) (by simp [go_sem]) ?_
    refine (unlock_deferred muLib ⟨x.b, 0, none⟩ .returning _ X5.out.c0 (blk_frozen X5.out.blk 0)).mono ?_
    rintro e u' w'' ⟨rfl, rfl, rfl⟩
    refine ⟨_, results_tmp rfl _ _ _, ?_, lock_back HB2.out (HW3.out ▸ HB5.out) HX.out.blk (X5.out.lock 0).blk⟩
    have e : f (s, d) = some v9 := by have h := HOK.out; have h2 := HV9.out; cases hfo : f (s, d) with | none => rw [hfo] at h; cases h | some v => rw [hfo] at h2; rw [← h2]; rfl
    rw [e]
    simp
end Go.Proofs.YtoigoiefnapokaaDoor.T
