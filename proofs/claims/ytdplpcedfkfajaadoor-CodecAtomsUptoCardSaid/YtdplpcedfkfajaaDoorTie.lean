/-
  DERIVED. GIVEN WITH THE SEED: THE PROGRAM's TIES (one call each: nine closed facts by the kernel) AND EACH ROW's TIE, after the 31st guide's Derived/Test/Toyas{Tie, Card}.lean. No idea stands in it: it is a product of the set-up. Laid BY PROGRAM, IN A SANDBOX (cutbox-door.mjs). By AI agents, Wed Nov 11 2026. No macro, syntax, notation, axiom, sorry.
-/
import Derived.Test.YtdplpcedfkfajaaDoorRows
import Derived.LaidByTextLater
import Derived.SevenTiedAt
import Derived.LaidSub
import Derived.LaidOnce
namespace Go.Proofs.YtdplpcedfkfajaaDoor
open Go
set_option maxRecDepth 100000
theorem seatTie1 : Tryd.prog.laidByTextLater [("hearsay/hearsayref03.behindTerm", Rows.laid_hearsay_hearsayref03_behindTerm), ("hearsay/hearsayref03.behindTest", Rows.laid_hearsay_hearsayref03_behindTest), ("hearsay/term.none", Rows.laid_hearsay_term_none), ("hearsay/clause.checks", Rows.laid_hearsay_clause_checks)] [.data, .data, .data, .funcs] true :=
  Program.laidByTextLater_by_one 35 8 8 (by kernel_rfl) (by kernel_rfl) (by kernel_rfl) (by kernel_rfl) (by kernel_rfl) (by kernel_rfl) (fun _ _ => by kernel_rfl)
theorem noOwnUnsafe : Tryd.pinned.checked.prog.headLifts.contains "ownunsafe" = false := by kernel_rfl
theorem tie : Tryd.prog.laidByTextLater [("hearsay/hearsayref03.behindTerm", Rows.laid_hearsay_hearsayref03_behindTerm), ("hearsay/term.none", Rows.laid_hearsay_term_none)] [.data, .data] true :=
  Program.laidByTextLater.sub seatTie1 ["hearsay/hearsayref03.behindTerm", "hearsay/term.none"] (by kernel_rfl) (by kernel_rfl)
theorem codecAtoms_row_tie : Rows.codecAtomsRow.laidByTextAt .later Tryd.pinned [.data, .data] true :=
  OpenClaim.laidByTextAt_later rfl rfl tie noOwnUnsafe
theorem tie2 : Tryd.prog.laidByTextLater [("hearsay/hearsayref03.behindTerm", Rows.laid_hearsay_hearsayref03_behindTerm), ("hearsay/hearsayref03.behindTest", Rows.laid_hearsay_hearsayref03_behindTest), ("hearsay/term.none", Rows.laid_hearsay_term_none), ("hearsay/clause.checks", Rows.laid_hearsay_clause_checks)] [.data, .data, .data, .funcs] true :=
  Program.laidByTextLater.sub seatTie1 ["hearsay/hearsayref03.behindTerm", "hearsay/hearsayref03.behindTest", "hearsay/term.none", "hearsay/clause.checks"] (by kernel_rfl) (by kernel_rfl)
theorem codecClauses_row_tie : Rows.codecClausesRow.laidByTextAt .later Tryd.pinned [.data, .data, .data, .funcs] true :=
  OpenClaim.laidByTextAt_later rfl rfl tie2 noOwnUnsafe
theorem tie3 : Tryd.prog.laidByTextLater [("hearsay/term.none", Rows.laid_hearsay_term_none), ("hearsay/clause.checks", Rows.laid_hearsay_clause_checks)] [.data, .funcs] true :=
  Program.laidByTextLater.sub seatTie1 ["hearsay/term.none", "hearsay/clause.checks"] (by kernel_rfl) (by kernel_rfl)
theorem codecOne_row_tie : Rows.codecOneRow.laidByTextAt .later Tryd.pinned [.data, .funcs] true :=
  OpenClaim.laidByTextAt_later rfl rfl tie3 noOwnUnsafe
theorem codecAtomsUpto_row_tie : Rows.codecAtomsUptoRow.laidByTextAt .later Tryd.pinned [.data, .data] true :=
  OpenClaim.laidByTextAt_later rfl rfl tie noOwnUnsafe
theorem codecClausesUpto_row_tie : Rows.codecClausesUptoRow.laidByTextAt .later Tryd.pinned [.data, .data, .data, .funcs] true :=
  OpenClaim.laidByTextAt_later rfl rfl tie2 noOwnUnsafe
theorem codecOneUpto_row_tie : Rows.codecOneUptoRow.laidByTextAt .later Tryd.pinned [.data, .funcs] true :=
  OpenClaim.laidByTextAt_later rfl rfl tie3 noOwnUnsafe
end Go.Proofs.YtdplpcedfkfajaaDoor
