/- The frames of the laws: an atom's name is within the bound. -/
import Derived.Test.YtnomgmlfagiffaaDoorFrameBMt
namespace Go.Proofs.YtnomgmlfagiffaaDoor.T
theorem size_A {H : Type} {d : DataW H} {t : Tm} {nm : ByteArray} {l : List Tm} (h : isA d t nm l) : nm.size ≤ Rows.uptoBulk d := by
  obtain ⟨dl, rfl, h⟩ := h
  have e : nm.size = nm.data.toList.length := rfl
  simp only [Rows.uptoBulk, Rows.uptoBulkAll]
  omega
end Go.Proofs.YtnomgmlfagiffaaDoor.T
