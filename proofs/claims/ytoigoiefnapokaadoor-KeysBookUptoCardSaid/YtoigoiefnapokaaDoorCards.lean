/-
  DERIVED. GIVEN WITH THE SEED: THE CARDS: each row of YtoigoiefnapokaaDoorRows.lean that lists a variable, with what it lists TIED to the program's text (the seventh form; the later family's looks); each row that meets fmt, with fmt's text TOLD by the authors' own Lean function (tested against real Go, not proved from fmt's source: count such statements apart). THE CARD IS WHAT COUNTS. Prove the row's statement (the work); the ties are given (YtoigoiefnapokaaDoorTie.lean); close each card by the builder's one call (the guide's Derived/Test/ToyasCard.lean, 'card_holds'). Laid BY PROGRAM, IN A SANDBOX (cutbox-door.mjs). By AI agents, Wed Nov 11 2026. No macro, syntax, notation, axiom, sorry.
-/
import Derived.Test.YtoigoiefnapokaaDoorRows
import GoSem.ClaimSeven
namespace Go.Proofs.YtoigoiefnapokaaDoor
namespace Rows

/-- THE TIED CARD OF 'hearsaylaw18.KeysIdeal'. -/
def keysIdealCard : Claim7 := { stood := { row := keysIdealRow, standIns := [], harness := (true, "d1923a259c07930a2045f8fe566714f8882ede3ab4571c4679d67f58a441b5c8"), looks := false }, kinds := [], alts := [], laidByText := true, laidKinds := [.data, .data], laidTests := true, laidLooks := .later }
def KeysIdealCardSaid : Prop := Claim7.holds Tryd.pinned (.plain (OpenSpec.ofChange keysIdealSpec)) keysIdealCard

/-- THE TIED CARD OF 'hearsaylaw18.KeysFull'. -/
def keysFullCard : Claim7 := { stood := { row := keysFullRow, standIns := [], harness := (true, "d1923a259c07930a2045f8fe566714f8882ede3ab4571c4679d67f58a441b5c8"), looks := false }, kinds := [], alts := [], laidByText := true, laidKinds := [.data, .data], laidTests := true, laidLooks := .later }
def KeysFullCardSaid : Prop := Claim7.holds Tryd.pinned (.plain (OpenSpec.ofChange keysFullSpec)) keysFullCard

/-- THE TIED CARD OF 'hearsaylaw18.KeysTwo'. -/
def keysTwoCard : Claim7 := { stood := { row := keysTwoRow, standIns := [], harness := (true, "d1923a259c07930a2045f8fe566714f8882ede3ab4571c4679d67f58a441b5c8"), looks := false }, kinds := [], alts := [], laidByText := true, laidKinds := [.data, .data], laidTests := true, laidLooks := .later }
def KeysTwoCardSaid : Prop := Claim7.holds Tryd.pinned (.plain (OpenSpec.ofChange keysTwoSpec)) keysTwoCard

/-- THE TIED CARD OF 'hearsaylaw18.KeysBook'. -/
def keysBookCard : Claim7 := { stood := { row := keysBookRow, standIns := [], harness := (true, "d1923a259c07930a2045f8fe566714f8882ede3ab4571c4679d67f58a441b5c8"), looks := false }, kinds := [], alts := [], laidByText := true, laidKinds := [.data, .data], laidTests := true, laidLooks := .later }
def KeysBookCardSaid : Prop := Claim7.holds Tryd.pinned (.plain (OpenSpec.ofChange keysBookSpec)) keysBookCard

/-- THE SECOND FORM's CARD OF 'hearsaylaw18.KeysIdeal'. -/
def keysIdealUptoCard : Claim7 := { stood := { row := keysIdealUptoRow, standIns := [], harness := (true, "d1923a259c07930a2045f8fe566714f8882ede3ab4571c4679d67f58a441b5c8"), looks := false }, kinds := [], alts := [], laidByText := true, laidKinds := [.data, .data], laidTests := true, laidLooks := .later }
def KeysIdealUptoCardSaid : Prop := Claim7.holds Tryd.pinned (.plain (OpenSpec.upto keysIdealSpec)) keysIdealUptoCard

/-- THE SECOND FORM's CARD OF 'hearsaylaw18.KeysFull'. -/
def keysFullUptoCard : Claim7 := { stood := { row := keysFullUptoRow, standIns := [], harness := (true, "d1923a259c07930a2045f8fe566714f8882ede3ab4571c4679d67f58a441b5c8"), looks := false }, kinds := [], alts := [], laidByText := true, laidKinds := [.data, .data], laidTests := true, laidLooks := .later }
def KeysFullUptoCardSaid : Prop := Claim7.holds Tryd.pinned (.plain (OpenSpec.upto keysFullSpec)) keysFullUptoCard

/-- THE SECOND FORM's CARD OF 'hearsaylaw18.KeysTwo'. -/
def keysTwoUptoCard : Claim7 := { stood := { row := keysTwoUptoRow, standIns := [], harness := (true, "d1923a259c07930a2045f8fe566714f8882ede3ab4571c4679d67f58a441b5c8"), looks := false }, kinds := [], alts := [], laidByText := true, laidKinds := [.data, .data], laidTests := true, laidLooks := .later }
def KeysTwoUptoCardSaid : Prop := Claim7.holds Tryd.pinned (.plain (OpenSpec.upto keysTwoSpec)) keysTwoUptoCard

/-- THE SECOND FORM's CARD OF 'hearsaylaw18.KeysBook'. -/
def keysBookUptoCard : Claim7 := { stood := { row := keysBookUptoRow, standIns := [], harness := (true, "d1923a259c07930a2045f8fe566714f8882ede3ab4571c4679d67f58a441b5c8"), looks := false }, kinds := [], alts := [], laidByText := true, laidKinds := [.data, .data], laidTests := true, laidLooks := .later }
def KeysBookUptoCardSaid : Prop := Claim7.holds Tryd.pinned (.plain (OpenSpec.upto keysBookSpec)) keysBookUptoCard
end Rows
end Go.Proofs.YtoigoiefnapokaaDoor
