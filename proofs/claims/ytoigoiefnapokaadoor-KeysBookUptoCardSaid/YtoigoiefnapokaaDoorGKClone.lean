/- bytes.Clone; keys.New. -/
import Derived.Test.YtoigoiefnapokaaDoorGKName
import Derived.Carry
import Derived.WalkSpells
set_option linter.unusedVariables false
set_option linter.unusedSimpArgs false
namespace Go.Proofs.YtoigoiefnapokaaDoor.T
open Go.RowKit Go.Maps Go.MuLone Go.Proofs.YtoigoiefnapokaaDoorW.PrintWords Go.Proofs.YtoigoiefnapokaaDoorW.PrintLast
/-- A slice of bytes that lies behind what was there. -/
structure NewB (w w' : World) (v : Value) (b : List Int) : Prop where
  ex : ∃ A c, v = .slice A b.length c ∧ ReadsInt w' .u8 A b.length b ∧ b.length ≤ c ∧ (∀ ad, A = some ad → 0 < b.length → w.heap.size ≤ ad.block)
  below : Below w.heap.size w w'
theorem reads_cell {w : World} {k : IntKind} {ad : Addr} {n : Nat} {xs : List Int} (h : ReadsInt w k (some ad) n xs) : ∀ j u, (nums k xs)[j]? = some u → w.cell? (ad.add j) = some u := by
  intro j u hj
  have hl := h.1
  have hj' : j < xs.length := by have := (List.getElem?_eq_some_iff.1 hj).1; rwa [nums_length] at this
  obtain ⟨ad', had', hc⟩ := h.2.2 (by omega)
  cases had'
  rw [nums_get j hj'] at hj
  injection hj with hj
  rw [← hj]
  exact hc j (by omega)
/-- append([]byte{}, b...): b copied behind what was there. -/
theorem wpl_copyall {P : Program} {ops : Array Oper} {rest : List Oper} {o : Oper} {a : Act} {Q : Exit → Act → World → Prop} {W : World} (hgd : o.guard = none) (s x : Operand) (t : TypeId) (ho : o.op = .call { callee := .builtin .append, args := #[s, x], argTypes := #[t, t] })
    (ht : P.underlying t = some (.slice 5)) (hinfo : (P.info? 5).map (fun i => (i.zero, i.size, i.bytes)) = some (some (.int .u8 0), 1, 1)) (hs : a.eval s = .slice (some ⟨W.heap.size, 0, none⟩) 0 0) (b : List Int) (ad : Addr) (c : Nat) (hx : a.eval x = .slice (some ad) b.length c)
    (hR : ReadsInt W .u8 (some ad) b.length b) (hp : 0 < b.length) (hl : b.length ≤ 140737488355328)
    (h : ∀ v1 w1, NewB W w1 v1 b → wpList P ops Q rest (a.put o.dst v1) w1) : wpList P ops Q (o :: rest) a (W.alloc (.cells #[] 5)) := by
  refine wpList_plain hgd fun K hK => ?_
  obtain ⟨i0, hi, hzz⟩ := Option.map_eq_some_iff.1 hinfo
  simp only [Prod.mk.injEq] at hzz
  obtain ⟨hz0, hz1, hz2⟩ := hzz
  have hb0 : Below W.heap.size W (W.alloc (.cells #[] 5)) := below_alloc (Below.refl _ _) _
  refine wp_append_lies (W.alloc (.cells #[] 5)) s x t ho W.heap.size 5 i0 (.int .u8 0) 1 1 ht hi hz0 hz1 hz2 rfl (by omega) (.slice (some ⟨W.heap.size, 0, none⟩) 0 0) 0 [] hs
    (by have := World.ownsRow_lit (base := W.heap.size) (e := 5) (size := 1) W #[] 0 (Nat.le_refl _) (by simp [maxLen]) rfl; simpa using this)
    ad b.length c (nums .u8 b) hx (by rw [nums_length, Nat.mul_one]) (reads_cell (hR.below hb0)) (by intro u hu; simp only [nums, List.mem_map] at hu; obtain ⟨y, _, rfl⟩ := hu; rfl) hp (by simp only [maxLen]; omega) (by omega) (by simp) _ rfl ?_
  intro g cap w1 hown hgr hat hlt
  refine hK _ _ (h _ w1 ⟨⟨some ⟨g, 0, none⟩, cap, by rw [Nat.zero_add], ?_, ?_, ?_⟩, ?_⟩)
  · refine ⟨rfl, by omega, fun _ => ⟨_, rfl, fun j hj => ?_⟩⟩
    have := hown.cells (g := g) rfl j (.int .u8 (b.getD j 0)) (by rw [List.nil_append]; exact nums_get j hj)
    exact this
  · rcases hown.2 with ⟨he, _⟩ | ⟨g', cap', cur, he, _, _, hnc, _⟩
    · cases he
    · injection he with _ _ he; omega
  · intro ad' had _
    cases had
    rcases hat with hat | hat
    · simp [Value.ownBlock] at hat
      show W.heap.size ≤ g
      omega
    · simp at hat
      show W.heap.size ≤ g
      omega
  · refine pw_below_grown hb0 _ hb0.size hgr (fun k hk => ?_)
    simp [Value.ownBlock] at hk
    omega
set_option maxHeartbeats 8000000 in
set_option maxRecDepth 100000 in
theorem clone_calls (w : World) (A : Option Addr) (c : Nat) (b : List Int) (hR : ReadsInt w .u8 A b.length b) (hc : b.length ≤ c) (hn : b.length ≤ 140737488355328) :
    Calls Tryd.prog 27 #[.slice A b.length c] w fun e w' => ∃ v, e = .returned v ∧ NewB w w' v b := by
  have HR := Aside0.mk hR
  have HC := Aside0.mk hc
  have HN := Aside0.mk hn
  have q22 : ∀ (W : World) (A : Option Addr) (n c : Nat), (binOp .eql 22 (.slice A n c) (.slice none 0 0)).run Tryd.prog W = .ok (.bool A.isNone) W := fun W A n c => by simp only [binOp]; simp [Op.equal, Op.maxDepth, Lib.run_equalIn_slice_nil W 9999 22 _ A n c 0 0 Tryd.underlying22]
  clear hR hc hn
  go_enter Tryd.func27, Tryd.ntmps27
  cases A with
  | none =>
    have h0 : b = [] := by
      rcases Nat.eq_zero_or_pos b.length with h0 | hp
      · exact List.length_eq_zero_iff.1 h0
      · obtain ⟨ad, had, _⟩ := HR.out.2.2 hp
        cases had
    subst h0
    go_wp2
    go_ret
    exact ⟨_, rfl, ⟨⟨none, 0, rfl, ReadsInt.nil _ _, Nat.le_refl _, fun ad h => by cases h⟩, Below.refl _ _⟩⟩
  | some ad =>
    by_cases hb : b = []
    · subst hb
      go_wp2
      go_ret
      exact ⟨_, rfl, ⟨⟨some ⟨w.heap.size, 0, none⟩, 0, rfl, ⟨rfl, by simp, fun h => absurd h (Nat.lt_irrefl 0)⟩, Nat.le_refl _, fun ad' h h0 => absurd h0 (Nat.lt_irrefl 0)⟩, below_alloc (Below.refl _ _) _⟩⟩
    · have HP := Aside0.mk (List.length_pos_iff.2 hb)
      clear hb
      go_wp2_with ((with_reducible refine gate_builtin (b := .append) (xs := #[.tmp 5, .tmp 6]) rfl ?_); at_builtin; go_loud (refine wpl_copyall rfl (.tmp 5) (.tmp 6) 22 rfl Tryd.underlying22 (by kernel_rfl) rfl b ad c rfl HR.out HP.out HN.out ?_; intro v1 w1 hN1))
      go_ret
      exact ⟨_, rfl, hN1⟩
set_option maxHeartbeats 8000000 in
set_option maxRecDepth 100000 in
theorem ring_calls (w0 w : World) (hB : Below w0.heap.size w0 w) (A : Option Addr) (c : Nat) (b : List Int) (hR : ReadsInt w .u8 A b.length b) (hc : b.length ≤ c) (hn : b.length ≤ 140737488355328) :
    Calls Tryd.prog 13 #[.slice A b.length c] w fun e w' => ∃ x : RV, e = .returned (.pointer (some ⟨x.b, 0, none⟩)) ∧ x.At w' w0.heap.size 0 ∧ x.sec = b ∧ x.nk = 0 ∧ x.ns = 0 ∧ x.Dk = .map [] ∧ x.Ds = .map [] ∧ Below w0.heap.size w0 w' ∧ w.heap.size ≤ x.b ∧ w.heap.size ≤ x.bk ∧ w.heap.size ≤ x.bs ∧ Below w.heap.size w w' := by
  have HB := Aside0.mk hB
  have HR := Aside0.mk hR
  have HC := Aside0.mk hc
  have HN := Aside0.mk hn
  have hmm := @run_makeMap Tryd.prog
  have hu66 := Tryd.underlying66
  clear hB hR hc hn
  go_enter Tryd.func13, Tryd.ntmps13
  go_wp2_with (go_at_call 27; (with_reducible refine (clone_calls _ A c b HR.out HC.out HN.out).mono ?_); rintro e w1 ⟨v, rfl, hv⟩; obtain ⟨⟨A1, c1, rfl, hr1, hc1, hf1⟩, hb1⟩ := hv; have HR1 := Aside0.mk hr1; have HC1 := Aside0.mk hc1; have HF1 := Aside0.mk hf1; have HB1 := Aside0.mk hb1; clear hr1 hc1 hf1 hb1)
  go_ret
  have hsz : (w1.alloc (.map #[] 0)).heap.size = w1.heap.size + 1 := by simp
  have hsz2 : ((w1.alloc (.map #[] 0)).alloc (.map #[] 0)).heap.size = w1.heap.size + 1 + 1 := by simp
  have hL : ∀ o : Obj, Below w1.heap.size w1 (((w1.alloc (.map #[] 0)).alloc (.map #[] 0)).alloc o) := fun o => below_alloc (below_alloc (below_alloc (Below.refl _ _) _) _) _
  have hk := (World.ownsMap_made (H := Value) w1 Tryd.prog 9 RD)
  have hs := (World.ownsMap_made (H := Value) (w1.alloc (.map #[] 0)) Tryd.prog 69 RD)
  rw [hsz] at hs
  have hw := HB1.out.size
  have h0 := HB.out.size
  refine ⟨⟨w1.heap.size + 1 + 1, w1.heap.size, w1.heap.size + 1, A1, c1, b, 0, 0, .map [], .map []⟩, rfl, ⟨?_, HR1.out.below (hL _), ?_, ⟨HC1.out, by have := HN.out; show b.length ≤ _; omega⟩, (hk.alloc _).alloc _, hs.alloc _, ⟨by show _ ≤ _ + 1 + 1; omega, by show _ ≤ w1.heap.size; omega, by show _ ≤ _ + 1; omega⟩, by show w1.heap.size ≠ w1.heap.size + 1; omega⟩, rfl, rfl, rfl, rfl, rfl, below_step (below_step HB.out HB1.out) (hL _), by show _ ≤ _ + 1 + 1; omega, by show _ ≤ w1.heap.size; omega, by show _ ≤ _ + 1; omega, below_step HB1.out (hL _)⟩
  · have h := heap_alloc_new ((w1.alloc (.map #[] 0)).alloc (.map #[] 0)) (.cells #[.int .i32 0, .int .u32 0, .slice A1 b.length c1, .map (some w1.heap.size), .map (some (w1.heap.size + 1))] 66)
    rw [hsz2] at h
    exact h
  · intro ad had hp
    have := reads_far HR1.out ad had hp
    show _ ≠ w1.heap.size + 1 + 1
    omega
end Go.Proofs.YtoigoiefnapokaaDoor.T
