/- The walk of digest.New. -/
import Derived.Test.YtoigoiefnapokaaDoorGKTurn
set_option linter.unusedVariables false
set_option linter.unusedSimpArgs false
namespace Go.Proofs.YtoigoiefnapokaaDoor.T
open Go.RowKit Go.Proofs.YtoigoiefnapokaaDoorW.PrintWords Go.Proofs.YtoigoiefnapokaaDoorW.PrintLast
def firstL : List Int := [1779033703, 3144134277, 1013904242, 2773480762, 1359893119, 2600822924, 528734635, 1541459225]
/-- The listed variable digest.first holds what its initialiser lays. -/
def LaidF (w : World) : Prop := ∀ j, j < 8 → w.cell? ⟨0, j, none⟩ = some (.int .u32 (firstL.getD j 0))
theorem LaidF.up {w W : World} (h : LaidF w) (hb : Below w.heap.size w W) : LaidF W := fun j hj => pw_cell_below hb (h j hj)
set_option maxHeartbeats 4000000 in
set_option maxRecDepth 100000 in
theorem new_calls (w : World) (hL : LaidF w) :
    Calls Tryd.prog 21 #[] w fun e w' => ∃ b, e = .returned (.pointer (some ⟨b, 0, none⟩)) ∧ w'.heap[b]? = some (.cells (hcells firstL (List.replicate 64 0) 0).toArray 78 (0, 0)) ∧ w.heap.size ≤ b ∧ Below w.heap.size w w' := by
  have hu76 := Tryd.underlying76
  have hu78 := Tryd.underlying78
  have c0 : w.cell? ⟨0, 0, none⟩ = some (.int .u32 1779033703) := hL 0 (by decide)
  have c1 : w.cell? ⟨0, 1, none⟩ = some (.int .u32 3144134277) := hL 1 (by decide)
  have c2 : w.cell? ⟨0, 2, none⟩ = some (.int .u32 1013904242) := hL 2 (by decide)
  have c3 : w.cell? ⟨0, 3, none⟩ = some (.int .u32 2773480762) := hL 3 (by decide)
  have c4 : w.cell? ⟨0, 4, none⟩ = some (.int .u32 1359893119) := hL 4 (by decide)
  have c5 : w.cell? ⟨0, 5, none⟩ = some (.int .u32 2600822924) := hL 5 (by decide)
  have c6 : w.cell? ⟨0, 6, none⟩ = some (.int .u32 528734635) := hL 6 (by decide)
  have c7 : w.cell? ⟨0, 7, none⟩ = some (.int .u32 1541459225) := hL 7 (by decide)
  clear hL
  go_enter Tryd.func21, Tryd.ntmps21
  go_wp2
  go_ret
  refine ⟨w.heap.size, rfl, (heap_alloc_new _ _).trans ?_, Nat.le_refl _, below_alloc (Below.refl _ _) _⟩
  congr 2
end Go.Proofs.YtoigoiefnapokaaDoor.T
