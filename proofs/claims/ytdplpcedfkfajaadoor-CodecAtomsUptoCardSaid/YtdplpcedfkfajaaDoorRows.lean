/-
  NARROWER THAN 'FOR EVERY INPUT', by the rows' own cells (each row's printed sentence says how): CodecAtoms: laid · CodecClauses: laid · CodecOne: laid.
  DERIVED. THE GIVEN ROWS OF THIS SEAT. 3 by the template 'for every input the law returns true; each argument reads behind the call as it read before'; 0 by the template 'total and deterministic' (their statements: YtdplpcedfkfajaaDoorTotals.lean).
  GIVEN WITH THE SEED: the statements are not yours to turn. If you find one false, say at which input.
  Laid BY PROGRAM, IN A SANDBOX (cutbox-rows.mjs): the forced cells as the released guide's own fill.sh prints them over the translation f30cf80eafc9fd5d… (all of the seat's roots in one cut). By AI agents, Wed Nov 11 2026. No macro, syntax, notation, axiom, sorry.
-/
import Derived.Test.YtdplpcedfkfajaaDoorChecked
import GoSem.Claim
import GoSem.ClaimJoined
import GoSem.ClaimMapViews
import Derived.JoinedTies
import Derived.KernelRfl
namespace Go.Proofs.YtdplpcedfkfajaaDoor
/- THE CELL 'sum', in the pinned program and in every row, IS THE sha256 OF THE DUMP (.gsa) THAT YtdplpcedfkfajaaDoorProg.lean LOADS. Nothing in Lean hashes anything: it is a label: what it is worth is what the hold of that sum in a sandbox is worth. -/
noncomputable def Tryd.pinned : Pinned := { name := "ytdplpcedfkfajaadoor", sum := "f30cf80eafc9fd5d6cdf6cec97a03944f20554a6e334ed58cebc87dc0bd9b64d", checked := Tryd.checked }
namespace Rows
def none {H : Type} : Left H := { results := [], args := [] }

/- WHAT THE LISTED PACKAGE-LEVEL VARIABLES READ AS WHEN THE CALL BEGINS. Each datum BY PROGRAM (the guide's laid-datum.mjs) off the statement by which the dump's own 'gosem.cut.vars' lays the variable. In a bare row this is a premise. The card (YtdplpcedfkfajaaDoorCards.lean) ties it to the program's text. -/
def laid_hearsay_hearsayref03_behindTerm {H : Type} : DataW H := .agg [.lit (.int .i64 901), .lit (.int .i64 902), .lit (.string [98, 101, 104, 105, 110, 100])]
def laid_hearsay_term_none {H : Type} : DataW H := .agg [.lit (.int .i64 0), .lit (.int .i64 0), .lit (.string [])]
def laid_hearsay_hearsayref03_behindTest {H : Type} : DataW H := .agg [.lit (.int .i64 903), .agg [.lit (.int .i64 0), .lit (.int .i64 0), .lit (.string [])], .agg [.lit (.int .i64 0), .lit (.int .i64 0), .lit (.string [])]]
def laid_hearsay_clause_checks {H : Type} : DataW H := .iface "func table" (.agg [.agg [.iface "func" (.lit (.string [104, 101, 97, 114, 115, 97, 121, 47, 99, 108, 97, 117, 115, 101, 46, 116, 111, 111, 76, 111, 110, 103]))], .agg [.iface "func" (.lit (.string [104, 101, 97, 114, 115, 97, 121, 47, 99, 108, 97, 117, 115, 101, 46, 98, 97, 100, 65, 116, 111, 109]))], .agg [.iface "func" (.lit (.string [104, 101, 97, 114, 115, 97, 121, 47, 99, 108, 97, 117, 115, 101, 46, 98, 97, 100, 84, 101, 115, 116]))], .agg [.iface "func" (.lit (.string [104, 101, 97, 114, 115, 97, 121, 47, 99, 108, 97, 117, 115, 101, 46, 111, 112, 101, 110, 72, 101, 97, 100]))], .agg [.iface "func" (.lit (.string [104, 101, 97, 114, 115, 97, 121, 47, 99, 108, 97, 117, 115, 101, 46, 117, 110, 115, 97, 102, 101]))], .agg [.iface "func" (.lit (.string [104, 101, 97, 114, 115, 97, 121, 47, 99, 108, 97, 117, 115, 101, 46, 109, 105, 115, 110, 117, 109, 98, 101, 114, 101, 100]))]])

/-- 'hearsaylaw06.CodecAtoms': WHATEVER THE INPUT: true; the input reads as it did. -/
def codecAtomsSpec : ChangeSpec := { name := "codecAtoms", fn := fun _ => fun
  | [d1, d2] => { results := [.lit (.bool true)], args := [d1, d2] }
  | _ => none }
def codecAtomsRow : OpenClaim := { program := "ytdplpcedfkfajaadoor", sum := "f30cf80eafc9fd5d6cdf6cec97a03944f20554a6e334ed58cebc87dc0bd9b64d", func := "hearsay/hearsaylaw06.CodecAtoms", spec := "codecAtoms", unfollowed := true, recurses := true, named := ["hearsay/hearsayref03.behindTerm", "hearsay/term.none"], apart := false, laid := [("hearsay/hearsayref03.behindTerm", laid_hearsay_hearsayref03_behindTerm), ("hearsay/term.none", laid_hearsay_term_none)] }
def CodecAtomsSaid : Prop := codecAtomsRow.holds Tryd.pinned (OpenSpec.ofChange codecAtomsSpec)

/-- ITS FALSE NEIGHBOUR: 'it returns false'. Refute it at one input. -/
def codecAtomsWrong : ChangeSpec := { name := "codecAtoms", fn := fun _ => fun
  | [d1, d2] => { results := [.lit (.bool false)], args := [d1, d2] }
  | _ => none }
def CodecAtomsWrongFalsely : Prop := codecAtomsRow.holds Tryd.pinned (OpenSpec.ofChange codecAtomsWrong)

/-- 'hearsaylaw06.CodecClauses': WHATEVER THE INPUT: true; the input reads as it did. -/
def codecClausesSpec : ChangeSpec := { name := "codecClauses", fn := fun _ => fun
  | [d1, d2] => { results := [.lit (.bool true)], args := [d1, d2] }
  | _ => none }
def codecClausesRow : OpenClaim := { program := "ytdplpcedfkfajaadoor", sum := "f30cf80eafc9fd5d6cdf6cec97a03944f20554a6e334ed58cebc87dc0bd9b64d", func := "hearsay/hearsaylaw06.CodecClauses", spec := "codecClauses", unfollowed := true, recurses := true, named := ["hearsay/hearsayref03.behindTest", "hearsay/hearsayref03.behindTerm", "hearsay/clause.checks", "hearsay/term.none"], apart := false, laid := [("hearsay/hearsayref03.behindTerm", laid_hearsay_hearsayref03_behindTerm), ("hearsay/hearsayref03.behindTest", laid_hearsay_hearsayref03_behindTest), ("hearsay/term.none", laid_hearsay_term_none), ("hearsay/clause.checks", laid_hearsay_clause_checks)] }
def CodecClausesSaid : Prop := codecClausesRow.holds Tryd.pinned (OpenSpec.ofChange codecClausesSpec)

/-- ITS FALSE NEIGHBOUR: 'it returns false'. Refute it at one input. -/
def codecClausesWrong : ChangeSpec := { name := "codecClauses", fn := fun _ => fun
  | [d1, d2] => { results := [.lit (.bool false)], args := [d1, d2] }
  | _ => none }
def CodecClausesWrongFalsely : Prop := codecClausesRow.holds Tryd.pinned (OpenSpec.ofChange codecClausesWrong)

/-- 'hearsaylaw06.CodecOne': WHATEVER THE INPUT: true; the input reads as it did. -/
def codecOneSpec : ChangeSpec := { name := "codecOne", fn := fun _ => fun
  | [d1, d2] => { results := [.lit (.bool true)], args := [d1, d2] }
  | _ => none }
def codecOneRow : OpenClaim := { program := "ytdplpcedfkfajaadoor", sum := "f30cf80eafc9fd5d6cdf6cec97a03944f20554a6e334ed58cebc87dc0bd9b64d", func := "hearsay/hearsaylaw06.CodecOne", spec := "codecOne", unfollowed := true, recurses := true, named := ["hearsay/clause.checks", "hearsay/term.none"], apart := false, laid := [("hearsay/term.none", laid_hearsay_term_none), ("hearsay/clause.checks", laid_hearsay_clause_checks)] }
def CodecOneSaid : Prop := codecOneRow.holds Tryd.pinned (OpenSpec.ofChange codecOneSpec)

/-- ITS FALSE NEIGHBOUR: 'it returns false'. Refute it at one input. -/
def codecOneWrong : ChangeSpec := { name := "codecOne", fn := fun _ => fun
  | [d1, d2] => { results := [.lit (.bool false)], args := [d1, d2] }
  | _ => none }
def CodecOneWrongFalsely : Prop := codecOneRow.holds Tryd.pinned (OpenSpec.ofChange codecOneWrong)

/- THE SECOND FORM. 'bulk': how many values and letters a reading holds, each counted each time it is reached (what is shared counts as often as it is met; a slice's spare places count too). A statement '..UptoSaid' is the law's where the arguments, and the package variables that the reading takes, are together of bulk at most 1048576: NARROWER than '..Said'. Prove '..Said' where nothing that the law and all that it calls make is longer than what came in: it says more and counts as full. Else prove '..UptoSaid'. A law counts once. -/
mutual
def uptoBulk {H : Type} : DataW H → Nat
  | .lit (.string bytes) => bytes.length + 1
  | .lit _ => 1
  | .nil => 1
  | .ptr d => uptoBulk d + 1
  | .slice elems spare => uptoBulkAll elems + uptoBulkAll spare + 1
  | .agg parts => uptoBulkAll parts + 1
  | .iface _ d => uptoBulk d + 1
  | .map entries => uptoBulkEntries entries + 1
  | .held _ => 1
def uptoBulkAll {H : Type} : List (DataW H) → Nat
  | [] => 0
  | d :: r => uptoBulk d + uptoBulkAll r
def uptoBulkEntries {H : Type} : List (Lit × DataW H) → Nat
  | [] => 0
  | x :: r => uptoBulkEntry x + uptoBulkEntries r
def uptoBulkEntry {H : Type} : Lit × DataW H → Nat
  | (.string bytes, d) => bytes.length + uptoBulk d + 1
  | (_, d) => uptoBulk d + 1
 end
def uptoSmall : (H : Type) → List (DataW H) → Bool := fun _ ds => decide (uptoBulkAll ds ≤ 1048576)
def OpenSpec.upto (s : _root_.Go.ChangeSpec) : _root_.Go.OpenSpec := { _root_.Go.OpenSpec.ofChange s with cond := some uptoSmall }

/-- 'hearsaylaw06.CodecAtoms', WHERE WHAT IT READS IS OF BULK AT MOST 1048576: true; the input reads as it did. -/
def codecAtomsUptoRow : OpenClaim := { program := "ytdplpcedfkfajaadoor", sum := "f30cf80eafc9fd5d6cdf6cec97a03944f20554a6e334ed58cebc87dc0bd9b64d", func := "hearsay/hearsaylaw06.CodecAtoms", spec := "codecAtoms", unfollowed := true, recurses := true, named := ["hearsay/hearsayref03.behindTerm", "hearsay/term.none"], apart := false, laid := [("hearsay/hearsayref03.behindTerm", laid_hearsay_hearsayref03_behindTerm), ("hearsay/term.none", laid_hearsay_term_none)], narrowed := true }
def CodecAtomsUptoSaid : Prop := codecAtomsUptoRow.holds Tryd.pinned (OpenSpec.upto codecAtomsSpec)

/-- 'hearsaylaw06.CodecClauses', WHERE WHAT IT READS IS OF BULK AT MOST 1048576: true; the input reads as it did. -/
def codecClausesUptoRow : OpenClaim := { program := "ytdplpcedfkfajaadoor", sum := "f30cf80eafc9fd5d6cdf6cec97a03944f20554a6e334ed58cebc87dc0bd9b64d", func := "hearsay/hearsaylaw06.CodecClauses", spec := "codecClauses", unfollowed := true, recurses := true, named := ["hearsay/hearsayref03.behindTest", "hearsay/hearsayref03.behindTerm", "hearsay/clause.checks", "hearsay/term.none"], apart := false, laid := [("hearsay/hearsayref03.behindTerm", laid_hearsay_hearsayref03_behindTerm), ("hearsay/hearsayref03.behindTest", laid_hearsay_hearsayref03_behindTest), ("hearsay/term.none", laid_hearsay_term_none), ("hearsay/clause.checks", laid_hearsay_clause_checks)], narrowed := true }
def CodecClausesUptoSaid : Prop := codecClausesUptoRow.holds Tryd.pinned (OpenSpec.upto codecClausesSpec)

/-- 'hearsaylaw06.CodecOne', WHERE WHAT IT READS IS OF BULK AT MOST 1048576: true; the input reads as it did. -/
def codecOneUptoRow : OpenClaim := { program := "ytdplpcedfkfajaadoor", sum := "f30cf80eafc9fd5d6cdf6cec97a03944f20554a6e334ed58cebc87dc0bd9b64d", func := "hearsay/hearsaylaw06.CodecOne", spec := "codecOne", unfollowed := true, recurses := true, named := ["hearsay/clause.checks", "hearsay/term.none"], apart := false, laid := [("hearsay/term.none", laid_hearsay_term_none), ("hearsay/clause.checks", laid_hearsay_clause_checks)], narrowed := true }
def CodecOneUptoSaid : Prop := codecOneUptoRow.holds Tryd.pinned (OpenSpec.upto codecOneSpec)

end Rows
end Go.Proofs.YtdplpcedfkfajaaDoor
