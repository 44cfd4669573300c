/- What the printed functions of package term answer, in closed form. -/
import Derived.Test.YtnomgmlfagiffaaDoorOrdMt
import Derived.Test.YtnomgmlfagiffaaDoorT7Mt
import Derived.Test.YtnomgmlfagiffaaDoorGPureMt
import Derived.Test.YtnomgmlfagiffaaDoorGMatchMt
set_option linter.unusedVariables false
set_option linter.unusedSimpArgs false
namespace Go.Proofs.YtnomgmlfagiffaaDoor.T
open Go.RowKit Go.Lib Go.Proofs.YtnomgmlfagiffaaDoorW.PrintWords Go.Proofs.YtnomgmlfagiffaaDoor.Hs
def cmpT (a b : Tm) : Int := orI (compareInt a.f0 b.f0) (orI (compareInt a.f1 b.f1) (compareBytes a.f2.toList b.f2.toList))
theorem ba_ext {a b : ByteArray} (h : a.toList = b.toList) : a = b := by
  rw [toList_data, toList_data] at h
  exact WideShapes.bytes_inj h
theorem cmpTm : Cmp cmpT := by
  have h := Cmp.of_inj (Cmp.lex cmpInt (Cmp.lex cmpInt cmpBytes)) (fun t : Tm => (t.f0, t.f1, t.f2.toList)) (fun a b e => by
    simp only [Prod.mk.injEq] at e
    obtain ⟨h0, h1, h2⟩ := e
    cases a; cases b
    simp only at h0 h1 h2
    subst h0 h1
    rw [ba_ext h2])
  exact h
theorem eqT_iff (a b : Tm) : eqT a b = true ↔ a = b := by
  unfold eqT
  simp only [Bool.and_eq_true, beq_iff_eq]
  constructor
  · rintro ⟨h0, h1, h2⟩
    cases a; cases b
    simp only at h0 h1 h2
    subst h0 h1
    rw [ba_ext h2]
  · rintro rfl
    exact ⟨rfl, rfl, rfl⟩
end Go.Proofs.YtnomgmlfagiffaaDoor.T
