/-
  DERIVED. GIVEN WITH THE SEED: THE PROGRAM's TIES (one call each: nine closed facts by the kernel) AND EACH ROW's TIE, after the 31st guide's Derived/Test/Toyas{Tie, Card}.lean. No idea stands in it: it is a product of the set-up. Laid BY PROGRAM, IN A SANDBOX (cutbox-door.mjs). By AI agents, Wed Nov 11 2026. No macro, syntax, notation, axiom, sorry.
-/
import Derived.Test.YtnomgmlfagiffaaDoorRows
import Derived.LaidByTextLater
import Derived.SevenTiedAt
import Derived.LaidSub
import Derived.LaidOnce
namespace Go.Proofs.YtnomgmlfagiffaaDoor
open Go
set_option maxRecDepth 100000
theorem seatTie1 : Tryd.prog.laidByTextLater [("hearsay/term.none", Rows.laid_hearsay_term_none), ("hearsay/hearsaylaw02.mark", Rows.laid_hearsay_hearsaylaw02_mark), ("hearsay/hearsaylaw02.late", Rows.laid_hearsay_hearsaylaw02_late)] [.data, .data, .data] true :=
  Program.laidByTextLater_by_one 25 8 5 (by kernel_rfl) (by kernel_rfl) (by kernel_rfl) (by kernel_rfl) (by kernel_rfl) (by kernel_rfl) (fun _ _ => by kernel_rfl)
theorem noOwnUnsafe : Tryd.pinned.checked.prog.headLifts.contains "ownunsafe" = false := by kernel_rfl
theorem tie : Tryd.prog.laidByTextLater [("hearsay/hearsaylaw02.mark", Rows.laid_hearsay_hearsaylaw02_mark), ("hearsay/hearsaylaw02.late", Rows.laid_hearsay_hearsaylaw02_late)] [.data, .data] true :=
  Program.laidByTextLater.sub seatTie1 ["hearsay/hearsaylaw02.mark", "hearsay/hearsaylaw02.late"] (by kernel_rfl) (by kernel_rfl)
theorem termMatches_row_tie : Rows.termMatchesRow.laidByTextAt .later Tryd.pinned [.data, .data] true :=
  OpenClaim.laidByTextAt_later rfl rfl tie noOwnUnsafe
theorem tie2 : Tryd.prog.laidByTextLater [("hearsay/term.none", Rows.laid_hearsay_term_none), ("hearsay/hearsaylaw02.mark", Rows.laid_hearsay_hearsaylaw02_mark), ("hearsay/hearsaylaw02.late", Rows.laid_hearsay_hearsaylaw02_late)] [.data, .data, .data] true :=
  Program.laidByTextLater.sub seatTie1 ["hearsay/term.none", "hearsay/hearsaylaw02.mark", "hearsay/hearsaylaw02.late"] (by kernel_rfl) (by kernel_rfl)
theorem termBinds_row_tie : Rows.termBindsRow.laidByTextAt .later Tryd.pinned [.data, .data, .data] true :=
  OpenClaim.laidByTextAt_later rfl rfl tie2 noOwnUnsafe
theorem termOwn_row_tie : Rows.termOwnRow.laidByTextAt .later Tryd.pinned [.data, .data, .data] true :=
  OpenClaim.laidByTextAt_later rfl rfl tie2 noOwnUnsafe
theorem tie3 : Tryd.prog.laidByTextLater [("hearsay/term.none", Rows.laid_hearsay_term_none)] [.data] true :=
  Program.laidByTextLater.sub seatTie1 ["hearsay/term.none"] (by kernel_rfl) (by kernel_rfl)
theorem termMakes_row_tie : Rows.termMakesRow.laidByTextAt .later Tryd.pinned [.data] true :=
  OpenClaim.laidByTextAt_later rfl rfl tie3 noOwnUnsafe
theorem termDecides_row_tie : Rows.termDecidesRow.laidByTextAt .later Tryd.pinned [.data] true :=
  OpenClaim.laidByTextAt_later rfl rfl tie3 noOwnUnsafe
theorem termUnifies_row_tie : Rows.termUnifiesRow.laidByTextAt .later Tryd.pinned [.data] true :=
  OpenClaim.laidByTextAt_later rfl rfl tie3 noOwnUnsafe
theorem tie4 : Tryd.prog.laidByTextLater [("hearsay/hearsaylaw02.mark", Rows.laid_hearsay_hearsaylaw02_mark)] [.data] true :=
  Program.laidByTextLater.sub seatTie1 ["hearsay/hearsaylaw02.mark"] (by kernel_rfl) (by kernel_rfl)
theorem termUnified_row_tie : Rows.termUnifiedRow.laidByTextAt .later Tryd.pinned [.data] true :=
  OpenClaim.laidByTextAt_later rfl rfl tie4 noOwnUnsafe
theorem tie5 : Tryd.prog.laidByTextLater [("hearsay/term.none", Rows.laid_hearsay_term_none), ("hearsay/hearsaylaw02.late", Rows.laid_hearsay_hearsaylaw02_late)] [.data, .data] true :=
  Program.laidByTextLater.sub seatTie1 ["hearsay/term.none", "hearsay/hearsaylaw02.late"] (by kernel_rfl) (by kernel_rfl)
theorem termTests_row_tie : Rows.termTestsRow.laidByTextAt .later Tryd.pinned [.data, .data] true :=
  OpenClaim.laidByTextAt_later rfl rfl tie5 noOwnUnsafe
theorem tie6 : Tryd.prog.laidByTextLater [("hearsay/term.none", Rows.laid_hearsay_term_none), ("hearsay/hearsaylaw02.mark", Rows.laid_hearsay_hearsaylaw02_mark)] [.data, .data] true :=
  Program.laidByTextLater.sub seatTie1 ["hearsay/term.none", "hearsay/hearsaylaw02.mark"] (by kernel_rfl) (by kernel_rfl)
theorem termAtoms_row_tie : Rows.termAtomsRow.laidByTextAt .later Tryd.pinned [.data, .data] true :=
  OpenClaim.laidByTextAt_later rfl rfl tie6 noOwnUnsafe
theorem termMatchesUpto_row_tie : Rows.termMatchesUptoRow.laidByTextAt .later Tryd.pinned [.data, .data] true :=
  OpenClaim.laidByTextAt_later rfl rfl tie noOwnUnsafe
theorem termBindsUpto_row_tie : Rows.termBindsUptoRow.laidByTextAt .later Tryd.pinned [.data, .data, .data] true :=
  OpenClaim.laidByTextAt_later rfl rfl tie2 noOwnUnsafe
theorem termMakesUpto_row_tie : Rows.termMakesUptoRow.laidByTextAt .later Tryd.pinned [.data] true :=
  OpenClaim.laidByTextAt_later rfl rfl tie3 noOwnUnsafe
theorem termUnifiedUpto_row_tie : Rows.termUnifiedUptoRow.laidByTextAt .later Tryd.pinned [.data] true :=
  OpenClaim.laidByTextAt_later rfl rfl tie4 noOwnUnsafe
theorem termTestsUpto_row_tie : Rows.termTestsUptoRow.laidByTextAt .later Tryd.pinned [.data, .data] true :=
  OpenClaim.laidByTextAt_later rfl rfl tie5 noOwnUnsafe
theorem termDecidesUpto_row_tie : Rows.termDecidesUptoRow.laidByTextAt .later Tryd.pinned [.data] true :=
  OpenClaim.laidByTextAt_later rfl rfl tie3 noOwnUnsafe
theorem termUnifiesUpto_row_tie : Rows.termUnifiesUptoRow.laidByTextAt .later Tryd.pinned [.data] true :=
  OpenClaim.laidByTextAt_later rfl rfl tie3 noOwnUnsafe
theorem termAtomsUpto_row_tie : Rows.termAtomsUptoRow.laidByTextAt .later Tryd.pinned [.data, .data] true :=
  OpenClaim.laidByTextAt_later rfl rfl tie6 noOwnUnsafe
theorem termOwnUpto_row_tie : Rows.termOwnUptoRow.laidByTextAt .later Tryd.pinned [.data, .data, .data] true :=
  OpenClaim.laidByTextAt_later rfl rfl tie2 noOwnUnsafe
end Go.Proofs.YtnomgmlfagiffaaDoor
