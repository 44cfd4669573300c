/- What the rows' lists of package variables say. -/
import Derived.Test.YtnomgmlfagiffaaDoorFrame
import Derived.Test.YtnomgmlfagiffaaDoorGLaid
set_option linter.unusedVariables false
namespace Go.Proofs.YtnomgmlfagiffaaDoor.T
open Go.ChangeShapes Go.WideShapes Go.ChangeAt Go.RowKit Go.Deep Go.Proofs.YtnomgmlfagiffaaDoorW.PrintWords
theorem gNone : Tryd.prog.globalNamed "hearsay/term.none" = some 2 := by kernel_rfl
theorem gNoneT : (Tryd.prog.globals[2]?).map (·.type) = some 23 := by kernel_rfl
set_option maxRecDepth 100000 in
theorem none_of {W : World} {rest : List (String × DataW Unit)} {ps : List MemPlace} (h : DataW.LaidVars Tryd.prog W (("hearsay/term.none", Rows.laid_hearsay_term_none) :: rest) ps) : Laid2 W ∧ ∃ q, DataW.LaidVars Tryd.prog W rest q := by
  obtain ⟨g, t, cs, fuel, p, q, hg, ht, hvar, hd, hq, _⟩ := h
  obtain rfl := Option.some.inj (gNone.symm.trans hg)
  obtain rfl := Option.some.inj (gNoneT.symm.trans ht)
  obtain ⟨t0, e, hx, _⟩ := open_T hd
  injection hx with h1 _
  have h2 : Rows.laid_hearsay_term_none = dT (H := Unit) ⟨0, 0, ⟨#[]⟩⟩ := rfl
  rw [h2] at h1
  simp only [dT, DataW.agg.injEq, List.cons.injEq, DataW.lit.injEq, Lit.int.injEq, Lit.string.injEq, and_true, true_and] at h1
  obtain ⟨e0, e1, e2⟩ := h1
  have hc := World.var?_cell (cs := cs) gNone hvar
  have c := fun i => hc i
  have e3 : t0.f2 = (⟨#[]⟩ : ByteArray) := by
    have : t0.f2.data = #[] := Array.toList_inj.1 e2.symm
    cases h4 : t0.f2 with
    | mk d => rw [h4] at this; simp only at this; rw [this]
  have e4 : cs = #[.int .i64 0, .int .i64 0, .string ⟨#[]⟩] := Array.toList_inj.1 (by rw [e, ← e0, ← e1, e3])
  subst e4
  exact ⟨⟨c 0, c 1, c 2⟩, q, hq⟩
end Go.Proofs.YtnomgmlfagiffaaDoor.T
