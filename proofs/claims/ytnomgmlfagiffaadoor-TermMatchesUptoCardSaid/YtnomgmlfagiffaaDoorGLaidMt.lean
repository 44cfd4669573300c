-- By a program of this session (wip/tools/myprint.py).
import Derived.Test.YtnomgmlfagiffaaDoorProg
import Derived.Test.YtnomgmlfagiffaaDoorWWords
namespace Go.Proofs.YtnomgmlfagiffaaDoor.T
open Go.RowKit Go.Proofs.YtnomgmlfagiffaaDoorW.PrintWords
/-- The listed variable hearsay/hearsaylaw02.late holds what its initialiser lays. -/
def Laid0 (w : World) : Prop := w.cell? ⟨0, 0, none⟩ = some (.int .i64 902) ∧ w.cell? ⟨0, 1, none⟩ = some (.int .i64 3) ∧ w.cell? ⟨0, 2, none⟩ = some (.int .i64 903) ∧ w.cell? ⟨0, 3, none⟩ = some (.string (⟨#[108, 97, 116, 101]⟩ : ByteArray))
theorem Laid0.up {w W : World} (h : Laid0 w) (hb : Below w.heap.size w W) : Laid0 W := ⟨pw_cell_below hb h.1, pw_cell_below hb h.2.1, pw_cell_below hb h.2.2.1, pw_cell_below hb h.2.2.2⟩
/-- The listed variable hearsay/hearsaylaw02.mark holds what its initialiser lays. -/
def Laid1 (w : World) : Prop := w.cell? ⟨1, 0, none⟩ = some (.int .i64 3) ∧ w.cell? ⟨1, 1, none⟩ = some (.int .i64 901) ∧ w.cell? ⟨1, 2, none⟩ = some (.string (⟨#[109, 97, 114, 107]⟩ : ByteArray))
theorem Laid1.up {w W : World} (h : Laid1 w) (hb : Below w.heap.size w W) : Laid1 W := ⟨pw_cell_below hb h.1, pw_cell_below hb h.2.1, pw_cell_below hb h.2.2⟩
/-- The listed variable hearsay/term.none holds what its initialiser lays. -/
def Laid2 (w : World) : Prop := w.cell? ⟨2, 0, none⟩ = some (.int .i64 0) ∧ w.cell? ⟨2, 1, none⟩ = some (.int .i64 0) ∧ w.cell? ⟨2, 2, none⟩ = some (.string (⟨#[]⟩ : ByteArray))
theorem Laid2.up {w W : World} (h : Laid2 w) (hb : Below w.heap.size w W) : Laid2 W := ⟨pw_cell_below hb h.1, pw_cell_below hb h.2.1, pw_cell_below hb h.2.2⟩
end Go.Proofs.YtnomgmlfagiffaaDoor.T
