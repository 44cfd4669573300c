/- The frames of the laws: a test opened. -/
import Derived.Test.YtnomgmlfagiffaaDoorFrameB
set_option linter.unusedVariables false
namespace Go.Proofs.YtnomgmlfagiffaaDoor.T
open Go.ChangeShapes Go.WideShapes Go.ChangeAt Go.RowKit Go.Deep Go.Proofs.YtnomgmlfagiffaaDoorW.PrintWords
section
variable {H : Type} {enc : TypeId × Value → H}
set_option maxRecDepth 100000 in
theorem arg_X {W : World} {base b0 : Nat} {sp : Nat → Bool} {held : Bool} {r : Reach} {v : Value} {d : DataW H} {ps : List MemPlace} (hval : Value.okWide Tryd.prog W r b0 50 v) (h : DataW.Trod enc Tryd.prog W base sp held 50 v d ps) :
    ∃ (o : Int) (t u : Tm), v = .agg #[.int .i64 o, .int .i64 t.f0, .int .i64 t.f1, .string t.f2, .int .i64 u.f0, .int .i64 u.f1, .string u.f2] ∧ okT t = true ∧ okT u = true := by
  obtain ⟨cs, rfl, hcs⟩ := okWide_struct Tryd.underlying50 hval
  obtain ⟨fuel, h⟩ := h
  have h := (show DataW.trod enc Tryd.prog W base sp held fuel 50 cs.toList = some (d, ps) by simpa [Value.cells] using h)
  obtain ⟨y0, y1, y2, k, hx, hl, u0, u1, u2⟩ := trod_struct3 Tryd.underlying50 h
  have hl7 : cs.toList.length = 7 := by rw [hl]; kernel_rfl
  obtain ⟨cl⟩ := cs
  match cl, hl7 with
  | [v0, v1, v2, v3, v4, v5, v6], _ =>
    simp only [cT, cI, List.drop, List.take] at u0 u1 u2
    obtain ⟨o, e0, rfl, w0⟩ := DataW.trod_int Tryd.underlying3 u0
    obtain ⟨t, e1, rfl, ot⟩ := open_T u1
    obtain ⟨u, e2, rfl, ou⟩ := open_T u2
    simp only [List.cons.injEq, and_true] at e0 e1 e2
    subst e0
    obtain ⟨rfl, rfl, rfl⟩ := e1
    obtain ⟨rfl, rfl, rfl⟩ := e2
    exact ⟨o, t, u, rfl, ot, ou⟩
end
end Go.Proofs.YtnomgmlfagiffaaDoor.T
