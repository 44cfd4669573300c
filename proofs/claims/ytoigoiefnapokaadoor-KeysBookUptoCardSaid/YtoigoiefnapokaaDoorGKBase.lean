/- Arrays in memory, plainly; rotations; eight bytes of a number. -/
import Derived.Test.YtoigoiefnapokaaDoorT1
import Derived.Laws.CopyRow
import Derived.Deep.LoopGhost
import Derived.Deep.RegionHeld3
import Derived.Deep.DrawnRows
import Derived.WalkKit
set_option linter.unusedVariables false
set_option linter.unusedSimpArgs false
namespace Go.Proofs.YtoigoiefnapokaaDoor.T
open Go.RowKit Go.Proofs.YtoigoiefnapokaaDoorW.PrintWords Go.Proofs.YtoigoiefnapokaaDoorW.PrintLast
/-- Steps 0 .. n-1, one behind the other. -/
def iter {α : Type} (f : Nat → α → α) : Nat → α → α
  | 0, x => x
  | n + 1, x => f n (iter f n x)
theorem iter_inv {α : Type} {f : Nat → α → α} {p : α → Prop} (hf : ∀ i x, p x → p (f i x)) : ∀ (n : Nat) (x : α), p x → p (iter f n x)
  | 0, _, h => h
  | n + 1, x, h => hf n _ (iter_inv hf n x h)
section
variable {W W' : World} {b : Nat} {cs : List Value} {t : TypeId} {k : IntKind} {xs : List Int}
theorem arr_cell (h : W.heap[b]? = some (.cells cs.toArray t (0, 0))) (i : Nat) {v : Value} (hv : cs[i]? = some v) : W.cell? ⟨b, i, none⟩ = some v := (blk_cell h i).trans (by simpa using hv)
theorem arr_put (h : W.heap[b]? = some (.cells cs.toArray t (0, 0))) (i : Nat) (v : Value) : (W.setCell ⟨b, i, none⟩ v).heap[b]? = some (.cells (cs.set i v).toArray t (0, 0)) := by
  rw [blk_set h, List.setIfInBounds_toArray]
theorem nums_get (i : Nat) (h : i < xs.length) : (nums k xs)[i]? = some (.int k (xs.getD i 0)) := by
  simp [nums, List.getD_eq_getElem?_getD, List.getElem?_eq_getElem h]
theorem nums_put (i : Nat) (v : Int) : (nums k xs).set i (.int k v) = nums k (xs.set i v) := by
  simp [nums, List.map_set]
theorem row_cell (h : W.heap[b]? = some (.cells (nums k xs).toArray t (0, 0))) (i : Nat) (hi : i < xs.length) : W.cell? ⟨b, i, none⟩ = some (.int k (xs.getD i 0)) := arr_cell h i (nums_get i hi)
theorem row_put (h : W.heap[b]? = some (.cells (nums k xs).toArray t (0, 0))) (i : Nat) (v : Int) : (W.setCell ⟨b, i, none⟩ (.int k v)).heap[b]? = some (.cells (nums k (xs.set i v)).toArray t (0, 0)) := by
  rw [arr_put h, nums_put]
theorem row_reads (h : W.heap[b]? = some (.cells (nums k xs).toArray t (0, 0))) (hl : xs.length ≤ 9223372036854775807) : ReadsInt W k (some ⟨b, 0, none⟩) xs.length xs :=
  ⟨rfl, hl, fun _ => ⟨_, rfl, fun j hj => by rw [add_plain]; exact row_cell h j hj⟩⟩
end
theorem wrap_id {x : Int} (h0 : -9223372036854775808 ≤ x) (h1 : x ≤ 9223372036854775807) : wrap64 x = x := by unfold wrap64; omega
theorem idx_at {x : Int} {n : Nat} (h : x = (n : Int)) (h1 : n ≤ 9223372036854775807) : wrap64 x = (n : Int) ∧ IntKind.i64.wrap x = (n : Int) := by
  have e : wrap64 x = (n : Int) := by rw [h]; exact wrap_id (by omega) (by omega)
  exact ⟨e, (i64_w _).trans e⟩
theorem put_other {W : World} {a b : Addr} {u v : Value} (n : a ≠ b) (h : W.cell? b = some u) : (W.setCell a v).cell? b = some u := (World.cell?_setCell_other _ _ _ _ n).trans h
theorem put_other' {W : World} {a b : Addr} {u v : Value} (n : a ≠ b) (h : W.cell? b = some u) : (W.setCell a v).drew.cell? b = some u := (World.cell?_setCell_other _ _ _ _ n).trans h
/-! rotations -/
def rotf (x n : Int) : Int := Go.bits .or .u32 (shl .u32 x (Go.bits .and .u64 (IntKind.u64.wrap (wrap64 (-n))) 31)) (shr .u32 x (IntKind.u64.wrap (32 - (Go.bits .and .u64 (IntKind.u64.wrap (wrap64 (-n))) 31))))
theorem right_ok (x n : Int) (h1 : 0 ≤ Go.bits .and .u64 (IntKind.u64.wrap (wrap64 (-n))) 31) (h2 : 0 ≤ IntKind.u64.wrap (32 - (Go.bits .and .u64 (IntKind.u64.wrap (wrap64 (-n))) 31))) : digest_right.f x n = some (rotf x n) := by
  unfold digest_right.f bits_RotateLeft32.f
  rw [if_pos h1, if_pos h2]
  rfl
theorem right_calls (x n : Int) (w : World) (h1 : 0 ≤ Go.bits .and .u64 (IntKind.u64.wrap (wrap64 (-n))) 31) (h2 : 0 ≤ IntKind.u64.wrap (32 - (Go.bits .and .u64 (IntKind.u64.wrap (wrap64 (-n))) 31))) :
    Calls Tryd.prog 41 #[.int .u32 x, .int .i64 n] w fun e w' => e = .returned (.int .u32 (rotf x n)) ∧ Drawn0 w w' := digest_right.calls x n (rotf x n) w (right_ok x n h1 h2)
theorem right_in : ∀ n ∈ ([2, 6, 7, 11, 13, 17, 18, 19, 22, 25] : List Int), 0 ≤ Go.bits .and .u64 (IntKind.u64.wrap (wrap64 (-n))) 31 ∧ 0 ≤ IntKind.u64.wrap (32 - (Go.bits .and .u64 (IntKind.u64.wrap (wrap64 (-n))) 31)) := by decide +kernel
theorem right_calls2 (x n : Int) (w : World) (h : n ∈ ([2, 6, 7, 11, 13, 17, 18, 19, 22, 25] : List Int)) :
    Calls Tryd.prog 41 #[.int .u32 x, .int .i64 n] w fun e w' => e = .returned (.int .u32 (rotf x n)) ∧ w'.heap = w.heap ∧ Below w.heap.size w w' :=
  (right_calls x n w (right_in n h).1 (right_in n h).2).mono fun e w' h => by
    obtain ⟨he, nd, rfl⟩ := h
    exact ⟨he, rfl, pw_below_drewN (Below.refl _ _) nd⟩
/-! eight -/
def eightStep (n : Int) (i : Nat) (xs : List Int) : List Int := xs.set i (n / 2 ^ (56 - 8 * i) % 256)
def eightf (n : Int) : List Int := iter (eightStep n) 8 (List.replicate 8 0)
theorem eight_len (n : Int) (j : Nat) : (iter (eightStep n) j (List.replicate 8 0)).length = 8 :=
  iter_inv (p := fun x : List Int => x.length = 8) (fun i x h => by simp [eightStep, h]) j _ (by simp)
set_option maxHeartbeats 4000000 in
set_option maxRecDepth 100000 in
theorem eight_calls (n : Int) (w : World) :
    Calls Tryd.prog 33 #[.int .u64 n] w fun e w' => ∃ b, e = .returned (.slice (some ⟨b, 0, none⟩) 8 8) ∧ w'.heap[b]? = some (.cells (nums .u8 (eightf n)).toArray 90 (0, 0)) ∧ w.heap.size ≤ b ∧ Below w.heap.size w w' := by
  go_enter Tryd.func33, Tryd.ntmps33
  go_wp2_with ((with_reducible refine gate_dst (N := 3) rfl ?_); refine box_event ?hg (N := 3) ?hd (cs := (nums .u8 (List.replicate 8 0)).toArray) (t := 90) ?hr ?_; (case hd => rfl); (case hg => rfl); (case hr => first | (go_simp; done) | (go_simp; rfl)); intro b hb w1 hbox hbl; have HBX := Aside0.mk hbox; have HBL := Aside0.mk hbl; have G := Aside0.mk (show w.heap.size ≤ b by omega); clear hb hbox hbl)
  go_loopg [5] 8 (fun gg s5 wr => ∃ (i : Nat), Aside0 (i ≤ 8 ∧ 8 - i ≤ gg) ∧ s5 = .int .i64 (i : Int) ∧ Aside0 (Below w.heap.size w wr) ∧ Aside0 (wr.heap[b]? = some (.cells (nums .u8 (iter (eightStep n) i (List.replicate 8 0))).toArray 90 (0, 0))))
  case atStart => exact ⟨0, ⟨by omega, by omega⟩, rfl, HBL, HBX⟩
  case round =>
    obtain ⟨i, HI, rfl, HB, HX⟩ := hrel
    by_cases hlt : (i : Int) < 8
    · have hltb : decide ((i : Int) < 8) = true := decide_eq_true hlt
      have hi : i < 8 := by omega
      have p0 : (0 : Int) ≤ (i : Int) := by omega
      have hw8 : wrap64 (8 * (i : Int)) = 8 * (i : Int) := by unfold wrap64; omega
      have hv8 : IntKind.i64.wrap (8 * (i : Int)) = 8 * (i : Int) := (i64_w _).trans hw8
      have hws : wrap64 (56 - 8 * (i : Int)) = 56 - 8 * (i : Int) := by unfold wrap64; omega
      have hvs : IntKind.i64.wrap (56 - 8 * (i : Int)) = 56 - 8 * (i : Int) := (i64_w _).trans hws
      have p1 : (0 : Int) ≤ 56 - 8 * (i : Int) := by omega
      have hwn : wrap64 ((i : Int) + 1) = ((i + 1 : Nat) : Int) := by unfold wrap64; omega
      have hc := row_cell HX.out i (by rw [eight_len]; exact hi)
      have hz := blk_frozen HX.out i
      go_wp2
      go_roundg (8 - (i + 1))
      case measure => have := HI.out; omega
      case rel =>
        refine ⟨i + 1, ⟨by omega, by omega⟩, by first | rfl | (simp [hwn]; done) | go_num, ⟨HB.out.setCell G.out _⟩, ⟨?_⟩⟩
        exact row_put HX.out i _
    · have hltb : decide ((i : Int) < 8) = false := decide_eq_false hlt
      obtain rfl : i = 8 := by have := HI.out; omega
      go_wp2
      go_ret
      exact ⟨b, rfl, HX.out, G.out, HB.out⟩
end Go.Proofs.YtoigoiefnapokaaDoor.T
