/- The laws' first call answers as the document fixes it. -/
import Derived.Test.YtnomgmlfagiffaaDoorT24Mt
import Derived.Test.YtnomgmlfagiffaaDoorGMatchMt
import Derived.Lib.Bytealg
import Derived.Lib.Small
namespace Go.Proofs.YtnomgmlfagiffaaDoor.T
open Go.RowKit Go.Lib Go.Proofs.YtnomgmlfagiffaaDoorW.PrintWords
theorem first_f : hearsaylaw02_first.f = some true := by
  have e0 : (⟨#[]⟩ : ByteArray).toList = [] := by rw [toList_data]
  have e1 : matchL ⟨#[112]⟩ [(⟨3, 0, ⟨#[]⟩⟩ : Tm)] ⟨#[112]⟩ [⟨1, 5, ⟨#[]⟩⟩] [] ⟨0, 0, ⟨#[]⟩⟩ ⟨0, 0, ⟨#[]⟩⟩ = ([⟨0, ⟨1, 5, ⟨#[]⟩⟩⟩], true) := by
    simp [matchL, stepM, isVar, eqT, getM, putM, startM, e0]
  unfold hearsaylaw02_first.f term_Match.f
  rw [e1, if_pos (by decide)]
  simp [rd_T44, e0]
end Go.Proofs.YtnomgmlfagiffaaDoor.T
