/-
  DERIVED. GIVEN WITH THE SEED: THE CARDS: each row of YtnomgmlfagiffaaDoorRows.lean that lists a variable, with what it lists TIED to the program's text (the seventh form; the later family's looks); each row that meets fmt, with fmt's text TOLD by the authors' own Lean function (tested against real Go, not proved from fmt's source: count such statements apart). THE CARD IS WHAT COUNTS. Prove the row's statement (the work); the ties are given (YtnomgmlfagiffaaDoorTie.lean); close each card by the builder's one call (the guide's Derived/Test/ToyasCard.lean, 'card_holds'). Laid BY PROGRAM, IN A SANDBOX (cutbox-door.mjs). By AI agents, Wed Nov 11 2026. No macro, syntax, notation, axiom, sorry.
-/
import Derived.Test.YtnomgmlfagiffaaDoorRows
import GoSem.ClaimSeven
namespace Go.Proofs.YtnomgmlfagiffaaDoor
namespace Rows

/-- THE TIED CARD OF 'hearsaylaw02.TermMatches'. -/
def termMatchesCard : Claim7 := { stood := { row := termMatchesRow, standIns := [], harness := (true, "30c6aa76f1fd4a6f0c34c1228688b38e675c710b2de333746f1afa7ccc32e050"), looks := false }, kinds := [], alts := [], laidByText := true, laidKinds := [.data, .data], laidTests := true, laidLooks := .later }
def TermMatchesCardSaid : Prop := Claim7.holds Tryd.pinned (.plain (OpenSpec.ofChange termMatchesSpec)) termMatchesCard

/-- THE TIED CARD OF 'hearsaylaw02.TermBinds'. -/
def termBindsCard : Claim7 := { stood := { row := termBindsRow, standIns := [], harness := (true, "30c6aa76f1fd4a6f0c34c1228688b38e675c710b2de333746f1afa7ccc32e050"), looks := false }, kinds := [], alts := [], laidByText := true, laidKinds := [.data, .data, .data], laidTests := true, laidLooks := .later }
def TermBindsCardSaid : Prop := Claim7.holds Tryd.pinned (.plain (OpenSpec.ofChange termBindsSpec)) termBindsCard

/-- THE TIED CARD OF 'hearsaylaw02.TermMakes'. -/
def termMakesCard : Claim7 := { stood := { row := termMakesRow, standIns := [], harness := (true, "30c6aa76f1fd4a6f0c34c1228688b38e675c710b2de333746f1afa7ccc32e050"), looks := false }, kinds := [], alts := [], laidByText := true, laidKinds := [.data], laidTests := true, laidLooks := .later }
def TermMakesCardSaid : Prop := Claim7.holds Tryd.pinned (.plain (OpenSpec.ofChange termMakesSpec)) termMakesCard

/-- THE TIED CARD OF 'hearsaylaw02.TermUnified'. -/
def termUnifiedCard : Claim7 := { stood := { row := termUnifiedRow, standIns := [], harness := (true, "30c6aa76f1fd4a6f0c34c1228688b38e675c710b2de333746f1afa7ccc32e050"), looks := false }, kinds := [], alts := [], laidByText := true, laidKinds := [.data], laidTests := true, laidLooks := .later }
def TermUnifiedCardSaid : Prop := Claim7.holds Tryd.pinned (.plain (OpenSpec.ofChange termUnifiedSpec)) termUnifiedCard

/-- THE TIED CARD OF 'hearsaylaw02.TermTests'. -/
def termTestsCard : Claim7 := { stood := { row := termTestsRow, standIns := [], harness := (true, "30c6aa76f1fd4a6f0c34c1228688b38e675c710b2de333746f1afa7ccc32e050"), looks := false }, kinds := [], alts := [], laidByText := true, laidKinds := [.data, .data], laidTests := true, laidLooks := .later }
def TermTestsCardSaid : Prop := Claim7.holds Tryd.pinned (.plain (OpenSpec.ofChange termTestsSpec)) termTestsCard

/-- THE TIED CARD OF 'hearsaylaw02.TermDecides'. -/
def termDecidesCard : Claim7 := { stood := { row := termDecidesRow, standIns := [], harness := (true, "30c6aa76f1fd4a6f0c34c1228688b38e675c710b2de333746f1afa7ccc32e050"), looks := false }, kinds := [], alts := [], laidByText := true, laidKinds := [.data], laidTests := true, laidLooks := .later }
def TermDecidesCardSaid : Prop := Claim7.holds Tryd.pinned (.plain (OpenSpec.ofChange termDecidesSpec)) termDecidesCard

/-- THE TIED CARD OF 'hearsaylaw02.TermUnifies'. -/
def termUnifiesCard : Claim7 := { stood := { row := termUnifiesRow, standIns := [], harness := (true, "30c6aa76f1fd4a6f0c34c1228688b38e675c710b2de333746f1afa7ccc32e050"), looks := false }, kinds := [], alts := [], laidByText := true, laidKinds := [.data], laidTests := true, laidLooks := .later }
def TermUnifiesCardSaid : Prop := Claim7.holds Tryd.pinned (.plain (OpenSpec.ofChange termUnifiesSpec)) termUnifiesCard

/-- THE TIED CARD OF 'hearsaylaw02.TermAtoms'. -/
def termAtomsCard : Claim7 := { stood := { row := termAtomsRow, standIns := [], harness := (true, "30c6aa76f1fd4a6f0c34c1228688b38e675c710b2de333746f1afa7ccc32e050"), looks := false }, kinds := [], alts := [], laidByText := true, laidKinds := [.data, .data], laidTests := true, laidLooks := .later }
def TermAtomsCardSaid : Prop := Claim7.holds Tryd.pinned (.plain (OpenSpec.ofChange termAtomsSpec)) termAtomsCard

/-- THE TIED CARD OF 'hearsaylaw02.TermOwn'. -/
def termOwnCard : Claim7 := { stood := { row := termOwnRow, standIns := [], harness := (true, "30c6aa76f1fd4a6f0c34c1228688b38e675c710b2de333746f1afa7ccc32e050"), looks := false }, kinds := [], alts := [], laidByText := true, laidKinds := [.data, .data, .data], laidTests := true, laidLooks := .later }
def TermOwnCardSaid : Prop := Claim7.holds Tryd.pinned (.plain (OpenSpec.ofChange termOwnSpec)) termOwnCard

/-- THE SECOND FORM's CARD OF 'hearsaylaw02.TermMatches'. -/
def termMatchesUptoCard : Claim7 := { stood := { row := termMatchesUptoRow, standIns := [], harness := (true, "30c6aa76f1fd4a6f0c34c1228688b38e675c710b2de333746f1afa7ccc32e050"), looks := false }, kinds := [], alts := [], laidByText := true, laidKinds := [.data, .data], laidTests := true, laidLooks := .later }
def TermMatchesUptoCardSaid : Prop := Claim7.holds Tryd.pinned (.plain (OpenSpec.upto termMatchesSpec)) termMatchesUptoCard

/-- THE SECOND FORM's CARD OF 'hearsaylaw02.TermBinds'. -/
def termBindsUptoCard : Claim7 := { stood := { row := termBindsUptoRow, standIns := [], harness := (true, "30c6aa76f1fd4a6f0c34c1228688b38e675c710b2de333746f1afa7ccc32e050"), looks := false }, kinds := [], alts := [], laidByText := true, laidKinds := [.data, .data, .data], laidTests := true, laidLooks := .later }
def TermBindsUptoCardSaid : Prop := Claim7.holds Tryd.pinned (.plain (OpenSpec.upto termBindsSpec)) termBindsUptoCard

/-- THE SECOND FORM's CARD OF 'hearsaylaw02.TermMakes'. -/
def termMakesUptoCard : Claim7 := { stood := { row := termMakesUptoRow, standIns := [], harness := (true, "30c6aa76f1fd4a6f0c34c1228688b38e675c710b2de333746f1afa7ccc32e050"), looks := false }, kinds := [], alts := [], laidByText := true, laidKinds := [.data], laidTests := true, laidLooks := .later }
def TermMakesUptoCardSaid : Prop := Claim7.holds Tryd.pinned (.plain (OpenSpec.upto termMakesSpec)) termMakesUptoCard

/-- THE SECOND FORM's CARD OF 'hearsaylaw02.TermUnified'. -/
def termUnifiedUptoCard : Claim7 := { stood := { row := termUnifiedUptoRow, standIns := [], harness := (true, "30c6aa76f1fd4a6f0c34c1228688b38e675c710b2de333746f1afa7ccc32e050"), looks := false }, kinds := [], alts := [], laidByText := true, laidKinds := [.data], laidTests := true, laidLooks := .later }
def TermUnifiedUptoCardSaid : Prop := Claim7.holds Tryd.pinned (.plain (OpenSpec.upto termUnifiedSpec)) termUnifiedUptoCard

/-- THE SECOND FORM's CARD OF 'hearsaylaw02.TermTests'. -/
def termTestsUptoCard : Claim7 := { stood := { row := termTestsUptoRow, standIns := [], harness := (true, "30c6aa76f1fd4a6f0c34c1228688b38e675c710b2de333746f1afa7ccc32e050"), looks := false }, kinds := [], alts := [], laidByText := true, laidKinds := [.data, .data], laidTests := true, laidLooks := .later }
def TermTestsUptoCardSaid : Prop := Claim7.holds Tryd.pinned (.plain (OpenSpec.upto termTestsSpec)) termTestsUptoCard

/-- THE SECOND FORM's CARD OF 'hearsaylaw02.TermDecides'. -/
def termDecidesUptoCard : Claim7 := { stood := { row := termDecidesUptoRow, standIns := [], harness := (true, "30c6aa76f1fd4a6f0c34c1228688b38e675c710b2de333746f1afa7ccc32e050"), looks := false }, kinds := [], alts := [], laidByText := true, laidKinds := [.data], laidTests := true, laidLooks := .later }
def TermDecidesUptoCardSaid : Prop := Claim7.holds Tryd.pinned (.plain (OpenSpec.upto termDecidesSpec)) termDecidesUptoCard

/-- THE SECOND FORM's CARD OF 'hearsaylaw02.TermUnifies'. -/
def termUnifiesUptoCard : Claim7 := { stood := { row := termUnifiesUptoRow, standIns := [], harness := (true, "30c6aa76f1fd4a6f0c34c1228688b38e675c710b2de333746f1afa7ccc32e050"), looks := false }, kinds := [], alts := [], laidByText := true, laidKinds := [.data], laidTests := true, laidLooks := .later }
def TermUnifiesUptoCardSaid : Prop := Claim7.holds Tryd.pinned (.plain (OpenSpec.upto termUnifiesSpec)) termUnifiesUptoCard

/-- THE SECOND FORM's CARD OF 'hearsaylaw02.TermAtoms'. -/
def termAtomsUptoCard : Claim7 := { stood := { row := termAtomsUptoRow, standIns := [], harness := (true, "30c6aa76f1fd4a6f0c34c1228688b38e675c710b2de333746f1afa7ccc32e050"), looks := false }, kinds := [], alts := [], laidByText := true, laidKinds := [.data, .data], laidTests := true, laidLooks := .later }
def TermAtomsUptoCardSaid : Prop := Claim7.holds Tryd.pinned (.plain (OpenSpec.upto termAtomsSpec)) termAtomsUptoCard

/-- THE SECOND FORM's CARD OF 'hearsaylaw02.TermOwn'. -/
def termOwnUptoCard : Claim7 := { stood := { row := termOwnUptoRow, standIns := [], harness := (true, "30c6aa76f1fd4a6f0c34c1228688b38e675c710b2de333746f1afa7ccc32e050"), looks := false }, kinds := [], alts := [], laidByText := true, laidKinds := [.data, .data, .data], laidTests := true, laidLooks := .later }
def TermOwnUptoCardSaid : Prop := Claim7.holds Tryd.pinned (.plain (OpenSpec.upto termOwnSpec)) termOwnUptoCard
end Rows
end Go.Proofs.YtnomgmlfagiffaaDoor
