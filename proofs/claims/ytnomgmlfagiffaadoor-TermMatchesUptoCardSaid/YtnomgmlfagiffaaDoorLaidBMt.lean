/- What the rows' lists of package variables say, of three variables. -/
import Derived.Test.YtnomgmlfagiffaaDoorFrameBMt
import Derived.Test.YtnomgmlfagiffaaDoorLaidMt
import Derived.Test.YtnomgmlfagiffaaDoorGLaidMt
set_option linter.unusedVariables false
namespace Go.Proofs.YtnomgmlfagiffaaDoor.T
open Go.ChangeShapes Go.WideShapes Go.ChangeAt Go.RowKit Go.Deep Go.Proofs.YtnomgmlfagiffaaDoorW.PrintWords
theorem laid_at {W : World} : ∀ {l : List (String × DataW Unit)} {ps : List MemPlace}, DataW.LaidVars Tryd.prog W l ps → ∀ {n : String} {d : DataW Unit}, (n, d) ∈ l →
    ∃ g t cs fuel p, Tryd.prog.globalNamed n = some g ∧ (Tryd.prog.globals[g]?).map (·.type) = some t ∧ W.var? Tryd.prog n = some cs ∧ DataW.trod (fun _ => ()) Tryd.prog W 0 (fun _ => true) false fuel t cs.toList = some (d, p)
  | [], _, _, _, _, h => by simp at h
  | (n0, d0) :: r, ps, hl, n, d, h => by
    obtain ⟨g, t, cs, fuel, p, q, hg, ht, hv, hd, hr, _⟩ := hl
    rcases List.mem_cons.1 h with h | h
    · injection h with h1 h2
      subst h1 h2
      exact ⟨g, t, cs, fuel, p, hg, ht, hv, hd⟩
    · exact laid_at hr h
theorem ba_of_list {s : ByteArray} {l : List UInt8} (h : l = s.data.toList) : s = ⟨⟨l⟩⟩ := by
  cases s with
  | mk d => simp only at h; rw [h]
theorem gMark : Tryd.prog.globalNamed "hearsay/hearsaylaw02.mark" = some 1 := by kernel_rfl
theorem gMarkT : (Tryd.prog.globals[1]?).map (·.type) = some 23 := by kernel_rfl
theorem mark_at {W : World} {l : List (String × DataW Unit)} {ps : List MemPlace} (hl : DataW.LaidVars Tryd.prog W l ps) (hm : ("hearsay/hearsaylaw02.mark", Rows.laid_hearsay_hearsaylaw02_mark) ∈ l) : Laid1 W := by
  obtain ⟨g, t, cs, fuel, p, hg, ht, hvar, hd⟩ := laid_at hl hm
  obtain rfl := Option.some.inj (gMark.symm.trans hg)
  obtain rfl := Option.some.inj (gMarkT.symm.trans ht)
  obtain ⟨t0, e, hx, _⟩ := open_T hd
  injection hx with h1 _
  have h2 : Rows.laid_hearsay_hearsaylaw02_mark = dT (H := Unit) ⟨3, 901, ⟨#[109, 97, 114, 107]⟩⟩ := rfl
  rw [h2] at h1
  simp only [dT, DataW.agg.injEq, List.cons.injEq, DataW.lit.injEq, Lit.int.injEq, Lit.string.injEq, and_true, true_and] at h1
  obtain ⟨e0, e1, e2⟩ := h1
  have c := fun i => World.var?_cell (cs := cs) gMark hvar i
  have e4 : cs = #[.int .i64 3, .int .i64 901, .string ⟨#[109, 97, 114, 107]⟩] := Array.toList_inj.1 (by rw [e, ← e0, ← e1, ba_of_list e2])
  subst e4
  exact ⟨c 0, c 1, c 2⟩
theorem gLate : Tryd.prog.globalNamed "hearsay/hearsaylaw02.late" = some 0 := by kernel_rfl
theorem gLateT : (Tryd.prog.globals[0]?).map (·.type) = some 44 := by kernel_rfl
theorem late_at {W : World} {l : List (String × DataW Unit)} {ps : List MemPlace} (hl : DataW.LaidVars Tryd.prog W l ps) (hm : ("hearsay/hearsaylaw02.late", Rows.laid_hearsay_hearsaylaw02_late) ∈ l) : Laid0 W := by
  obtain ⟨g, t, cs, fuel, p, hg, ht, hvar, hd⟩ := laid_at hl hm
  obtain rfl := Option.some.inj (gLate.symm.trans hg)
  obtain rfl := Option.some.inj (gLateT.symm.trans ht)
  obtain ⟨b0, e, h1, _⟩ := open_B hd
  have h2 : Rows.laid_hearsay_hearsaylaw02_late = dB (H := Unit) ⟨902, ⟨3, 903, ⟨#[108, 97, 116, 101]⟩⟩⟩ := rfl
  simp only at h1
  rw [h2] at h1
  simp only [dB, dT, DataW.agg.injEq, List.cons.injEq, DataW.lit.injEq, Lit.int.injEq, Lit.string.injEq, and_true, true_and] at h1
  obtain ⟨e0, e1, e2, e3⟩ := h1
  have c := fun i => World.var?_cell (cs := cs) gLate hvar i
  have e4 : cs = #[.int .i64 902, .int .i64 3, .int .i64 903, .string ⟨#[108, 97, 116, 101]⟩] := Array.toList_inj.1 (by rw [e, encB, ← e0, ← e1, ← e2, ba_of_list e3])
  subst e4
  exact ⟨c 0, c 1, c 2, c 3⟩
end Go.Proofs.YtnomgmlfagiffaaDoor.T
