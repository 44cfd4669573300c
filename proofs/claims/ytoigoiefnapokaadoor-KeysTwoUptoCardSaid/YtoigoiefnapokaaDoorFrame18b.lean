/- A pair by value among the arguments. -/
import Derived.Test.YtoigoiefnapokaaDoorFrame18
set_option linter.unusedVariables false
set_option linter.unusedSimpArgs false
namespace Go.Proofs.YtoigoiefnapokaaDoor.T
open Go.ChangeShapes Go.WideShapes Go.ChangeAt Go.RowKit Go.Deep Go.Proofs.YtoigoiefnapokaaDoorW.PrintWords
section
variable {H : Type} {enc : TypeId × Value → H}
set_option maxRecDepth 100000 in
theorem arg_Pv {W : World} {base b0 : Nat} {sp : Nat → Bool} {held : Bool} {r : Reach} {v : Value} {d : DataW H} {ps : List MemPlace} (hval : Value.okWide Tryd.prog W r b0 35 v) (h : DataW.Trod enc Tryd.prog W base sp held 35 v d ps) :
    ∃ p : Pr, v = pairP p ∧ IsD p.2 := by
  obtain ⟨cs, rfl, hcs⟩ := okWide_struct Tryd.underlying35 hval
  obtain ⟨fuel, h⟩ := h
  have h := (show DataW.trod enc Tryd.prog W base sp held fuel 35 cs.toList = some (d, ps) by simpa [Value.cells] using h)
  obtain ⟨p, e, _, hok⟩ := open_P h
  refine ⟨p, ?_, okPr_is hok⟩
  unfold pairP
  rw [← e]
end
end Go.Proofs.YtoigoiefnapokaaDoor.T
