/- append onto a row of bytes of the call's own: bytes that lie in another block. -/
import Derived.Test.YtoigoiefnapokaaDoorGKWrite
import Derived.Deep.AppendLies
set_option linter.unusedVariables false
set_option linter.unusedSimpArgs false
namespace Go.Proofs.YtoigoiefnapokaaDoor.T
open Go.RowKit Go.Proofs.YtoigoiefnapokaaDoorW.PrintWords Go.Proofs.YtoigoiefnapokaaDoorW.PrintLast
/-- A row of bytes of the call's own, in a block that is ok. -/
abbrev Bt (W : World) (base : Nat) (ok : Nat → Prop) (v : Value) (xs : List Int) : Prop := Kd.R (Kd.int .u8) 5 W base ok v xs
theorem Bt.reads {W : World} {base : Nat} {ok : Nat → Prop} {v : Value} {xs : List Int} (h : Bt W base ok v xs) (hp : 0 < xs.length) (hl : xs.length ≤ 9223372036854775807) :
    ∃ g c, v = .slice (some ⟨g, 0, none⟩) xs.length c ∧ xs.length ≤ c ∧ base ≤ g ∧ g < W.heap.size ∧ ok g ∧ ReadsInt W .u8 (some ⟨g, 0, none⟩) xs.length xs := by
  obtain ⟨g, c, rfl, hb, hlt, _⟩ := Kd.R_form h hp
  have hc := (Kd.R_reads' h).2.1
  refine ⟨g, c, rfl, hc, hb, hlt, h.1 g rfl, rfl, hl, fun _ => ⟨_, rfl, fun j hj => ?_⟩⟩
  have := (Kd.own_of_R h).cells (g := g) rfl j (.int .u8 (xs.getD j 0)) (by simp [encs, List.getD_eq_getElem?_getD, List.getElem?_eq_getElem hj])
  exact this
section
variable {P : Program} {ops : Array Oper} {o : Oper} {a : Act} {Q : Exit → Act → World → Prop}
theorem wp_append_bytes {W : World} {K : Act → World → Prop} (s x : Operand) (t : TypeId) (ho : o.op = .call { callee := .builtin .append, args := #[s, x], argTypes := #[t, t] })
    (ht : P.underlying t = some (.slice 5)) (hinfo : (P.info? 5).map (fun i => (i.zero, i.size, i.bytes)) = some (some (.int .u8 0), 1, 1))
    (base : Nat) (ok : Nat → Prop) (v : Value) (xs ys : List Int) (g c : Nat) (t0 : TypeId) (hs : a.eval s = v) (hx : a.eval x = .slice (some ⟨g, 0, none⟩) ys.length c) (hg : W.heap[g]? = some (.cells (nums .u8 ys).toArray t0 (0, 0)))
    (HO : Bt W base ok v xs) (hfresh : ∀ k, W.heap.size ≤ k → ok k) (hbase : base ≤ W.heap.size) (hp : 0 < ys.length) (hl : xs.length + ys.length ≤ 140737488355328)
    (h : ∀ v1 w1, Bt w1 base ok v1 (xs ++ ys) → W.grownBy w1 v.ownBlock → K (a.put o.dst v1) w1) : o.wp P a W K Q := by
  obtain ⟨i0, hi, hzz⟩ := Option.map_eq_some_iff.1 hinfo
  simp only [Prod.mk.injEq] at hzz
  obtain ⟨hz0, hz1, hz2⟩ := hzz
  refine wp_append_lies W s x t ho base 5 i0 (.int .u8 0) 1 1 ht hi hz0 hz1 hz2 rfl (by omega) v xs.length (nums .u8 xs) hs (Kd.own_of_R HO) ⟨g, 0, none⟩ ys.length c (nums .u8 ys) hx (by rw [nums_length, Nat.mul_one]) (World.news_of_block hg) (by intro u hu; simp only [nums, List.mem_map] at hu; obtain ⟨y, _, rfl⟩ := hu; rfl) hp (by simp only [maxLen]; omega) (by omega) hbase _ rfl ?_
  intro g1 cap w1 hown hgr hat hlt
  refine h _ w1 (Kd.R_of_own (h1 := fun _ => rfl) (by rw [List.length_append]; simpa [nums_append, nums, encs] using hown) (fun k hk => ?_)) hgr
  have hk' : g1 = k := by simpa [Value.ownBlock] using hk
  subst hk'
  rcases hat with hat | hat
  · exact HO.1 g1 hat
  · exact hfresh g1 (by omega)
theorem wpl_bytes {W : World} {rest : List Oper} (hgd : o.guard = none) (s x : Operand) (t : TypeId) (ho : o.op = .call { callee := .builtin .append, args := #[s, x], argTypes := #[t, t] })
    (ht : P.underlying t = some (.slice 5)) (hinfo : (P.info? 5).map (fun i => (i.zero, i.size, i.bytes)) = some (some (.int .u8 0), 1, 1))
    (base : Nat) (ok : Nat → Prop) (v : Value) (xs ys : List Int) (g c : Nat) (t0 : TypeId) (hs : a.eval s = v) (hx : a.eval x = .slice (some ⟨g, 0, none⟩) ys.length c) (hg : W.heap[g]? = some (.cells (nums .u8 ys).toArray t0 (0, 0)))
    (HO : Bt W base ok v xs) (hfresh : ∀ k, W.heap.size ≤ k → ok k) (hbase : base ≤ W.heap.size) (hp : 0 < ys.length) (hl : xs.length + ys.length ≤ 140737488355328)
    (h : ∀ v1 w1, Bt w1 base ok v1 (xs ++ ys) → W.grownBy w1 v.ownBlock → wpList P ops Q rest (a.put o.dst v1) w1) : wpList P ops Q (o :: rest) a W :=
  wpList_plain hgd fun K hK => wp_append_bytes s x t ho ht hinfo base ok v xs ys g c t0 hs hx hg HO hfresh hbase hp hl (fun v1 w1 h1 h2 => hK _ _ (h v1 w1 h1 h2))
end
end Go.Proofs.YtoigoiefnapokaaDoor.T
