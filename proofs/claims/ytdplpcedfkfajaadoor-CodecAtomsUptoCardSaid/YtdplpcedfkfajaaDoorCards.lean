/-
  DERIVED. GIVEN WITH THE SEED: THE CARDS: each row of YtdplpcedfkfajaaDoorRows.lean that lists a variable, with what it lists TIED to the program's text (the seventh form; the later family's looks); each row that meets fmt, with fmt's text TOLD by the authors' own Lean function (tested against real Go, not proved from fmt's source: count such statements apart). THE CARD IS WHAT COUNTS. Prove the row's statement (the work); the ties are given (YtdplpcedfkfajaaDoorTie.lean); close each card by the builder's one call (the guide's Derived/Test/ToyasCard.lean, 'card_holds'). Laid BY PROGRAM, IN A SANDBOX (cutbox-door.mjs). By AI agents, Wed Nov 11 2026. No macro, syntax, notation, axiom, sorry.
-/
import Derived.Test.YtdplpcedfkfajaaDoorRows
import GoSem.ClaimSeven
namespace Go.Proofs.YtdplpcedfkfajaaDoor
namespace Rows

/-- THE TIED CARD OF 'hearsaylaw06.CodecAtoms'. -/
def codecAtomsCard : Claim7 := { stood := { row := codecAtomsRow, standIns := [], harness := (true, "0c1e4774589e4efd5793961ae7555f77d9587d7fd748b3aa9b70a2fbe366a485"), looks := true }, kinds := [], alts := [], laidByText := true, laidKinds := [.data, .data], laidTests := true, laidLooks := .later }
def CodecAtomsCardSaid : Prop := Claim7.holds Tryd.pinned (.plain (OpenSpec.ofChange codecAtomsSpec)) codecAtomsCard

/-- THE TIED CARD OF 'hearsaylaw06.CodecClauses'. -/
def codecClausesCard : Claim7 := { stood := { row := codecClausesRow, standIns := [], harness := (true, "0c1e4774589e4efd5793961ae7555f77d9587d7fd748b3aa9b70a2fbe366a485"), looks := true }, kinds := [], alts := [], laidByText := true, laidKinds := [.data, .data, .data, .funcs], laidTests := true, laidLooks := .later }
def CodecClausesCardSaid : Prop := Claim7.holds Tryd.pinned (.plain (OpenSpec.ofChange codecClausesSpec)) codecClausesCard

/-- THE TIED CARD OF 'hearsaylaw06.CodecOne'. -/
def codecOneCard : Claim7 := { stood := { row := codecOneRow, standIns := [], harness := (true, "0c1e4774589e4efd5793961ae7555f77d9587d7fd748b3aa9b70a2fbe366a485"), looks := true }, kinds := [], alts := [], laidByText := true, laidKinds := [.data, .funcs], laidTests := true, laidLooks := .later }
def CodecOneCardSaid : Prop := Claim7.holds Tryd.pinned (.plain (OpenSpec.ofChange codecOneSpec)) codecOneCard

/-- THE SECOND FORM's CARD OF 'hearsaylaw06.CodecAtoms'. -/
def codecAtomsUptoCard : Claim7 := { stood := { row := codecAtomsUptoRow, standIns := [], harness := (true, "0c1e4774589e4efd5793961ae7555f77d9587d7fd748b3aa9b70a2fbe366a485"), looks := true }, kinds := [], alts := [], laidByText := true, laidKinds := [.data, .data], laidTests := true, laidLooks := .later }
def CodecAtomsUptoCardSaid : Prop := Claim7.holds Tryd.pinned (.plain (OpenSpec.upto codecAtomsSpec)) codecAtomsUptoCard

/-- THE SECOND FORM's CARD OF 'hearsaylaw06.CodecClauses'. -/
def codecClausesUptoCard : Claim7 := { stood := { row := codecClausesUptoRow, standIns := [], harness := (true, "0c1e4774589e4efd5793961ae7555f77d9587d7fd748b3aa9b70a2fbe366a485"), looks := true }, kinds := [], alts := [], laidByText := true, laidKinds := [.data, .data, .data, .funcs], laidTests := true, laidLooks := .later }
def CodecClausesUptoCardSaid : Prop := Claim7.holds Tryd.pinned (.plain (OpenSpec.upto codecClausesSpec)) codecClausesUptoCard

/-- THE SECOND FORM's CARD OF 'hearsaylaw06.CodecOne'. -/
def codecOneUptoCard : Claim7 := { stood := { row := codecOneUptoRow, standIns := [], harness := (true, "0c1e4774589e4efd5793961ae7555f77d9587d7fd748b3aa9b70a2fbe366a485"), looks := true }, kinds := [], alts := [], laidByText := true, laidKinds := [.data, .funcs], laidTests := true, laidLooks := .later }
def CodecOneUptoCardSaid : Prop := Claim7.holds Tryd.pinned (.plain (OpenSpec.upto codecOneSpec)) codecOneUptoCard
end Rows
end Go.Proofs.YtdplpcedfkfajaaDoor
