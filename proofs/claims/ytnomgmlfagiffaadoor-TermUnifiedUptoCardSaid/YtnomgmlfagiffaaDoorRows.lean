/-
  NARROWER THAN 'FOR EVERY INPUT', by the rows' own cells (each row's printed sentence says how): TermMatches: laid · TermBinds: laid · TermMakes: laid · TermUnified: laid · TermTests: laid · TermDecides: laid · TermUnifies: laid · TermAtoms: laid · TermOwn: laid.
  DERIVED. THE GIVEN ROWS OF THIS SEAT. 9 by the template 'for every input the law returns true; each argument reads behind the call as it read before'; 0 by the template 'total and deterministic' (their statements: YtnomgmlfagiffaaDoorTotals.lean).
  GIVEN WITH THE SEED: the statements are not yours to turn. If you find one false, say at which input.
  Laid BY PROGRAM, IN A SANDBOX (cutbox-rows.mjs): the forced cells as the released guide's own fill.sh prints them over the translation adb761be1284fbf1… (all of the seat's roots in one cut). By AI agents, Wed Nov 11 2026. No macro, syntax, notation, axiom, sorry.
-/
import Derived.Test.YtnomgmlfagiffaaDoorChecked
import GoSem.Claim
import GoSem.ClaimJoined
import GoSem.ClaimMapViews
import Derived.JoinedTies
import Derived.KernelRfl
namespace Go.Proofs.YtnomgmlfagiffaaDoor
/- THE CELL 'sum', in the pinned program and in every row, IS THE sha256 OF THE DUMP (.gsa) THAT YtnomgmlfagiffaaDoorProg.lean LOADS. Nothing in Lean hashes anything: it is a label: what it is worth is what the hold of that sum in a sandbox is worth. -/
noncomputable def Tryd.pinned : Pinned := { name := "ytnomgmlfagiffaadoor", sum := "adb761be1284fbf125153e601e309a79bbff132ddc16b5e4434db391f6687f8a", checked := Tryd.checked }
namespace Rows
def none {H : Type} : Left H := { results := [], args := [] }

/- WHAT THE LISTED PACKAGE-LEVEL VARIABLES READ AS WHEN THE CALL BEGINS. Each datum BY PROGRAM (the guide's laid-datum.mjs) off the statement by which the dump's own 'gosem.cut.vars' lays the variable. In a bare row this is a premise. The card (YtnomgmlfagiffaaDoorCards.lean) ties it to the program's text. -/
def laid_hearsay_hearsaylaw02_mark {H : Type} : DataW H := .agg [.lit (.int .i64 3), .lit (.int .i64 901), .lit (.string [109, 97, 114, 107])]
def laid_hearsay_hearsaylaw02_late {H : Type} : DataW H := .agg [.lit (.int .i64 902), .agg [.lit (.int .i64 3), .lit (.int .i64 903), .lit (.string [108, 97, 116, 101])]]
def laid_hearsay_term_none {H : Type} : DataW H := .agg [.lit (.int .i64 0), .lit (.int .i64 0), .lit (.string [])]

/-- 'hearsaylaw02.TermMatches': WHATEVER THE INPUT: true; the input reads as it did. -/
def termMatchesSpec : ChangeSpec := { name := "termMatches", fn := fun _ => fun
  | [d1, d2, d3] => { results := [.lit (.bool true)], args := [d1, d2, d3] }
  | _ => none }
def termMatchesRow : OpenClaim := { program := "ytnomgmlfagiffaadoor", sum := "adb761be1284fbf125153e601e309a79bbff132ddc16b5e4434db391f6687f8a", func := "hearsay/hearsaylaw02.TermMatches", spec := "termMatches", unfollowed := true, recurses := true, named := ["hearsay/hearsaylaw02.late", "hearsay/hearsaylaw02.mark"], plainKeys := false, apart := false, laid := [("hearsay/hearsaylaw02.mark", laid_hearsay_hearsaylaw02_mark), ("hearsay/hearsaylaw02.late", laid_hearsay_hearsaylaw02_late)] }
def TermMatchesSaid : Prop := termMatchesRow.holds Tryd.pinned (OpenSpec.ofChange termMatchesSpec)

/-- ITS FALSE NEIGHBOUR: 'it returns false'. Refute it at one input. -/
def termMatchesWrong : ChangeSpec := { name := "termMatches", fn := fun _ => fun
  | [d1, d2, d3] => { results := [.lit (.bool false)], args := [d1, d2, d3] }
  | _ => none }
def TermMatchesWrongFalsely : Prop := termMatchesRow.holds Tryd.pinned (OpenSpec.ofChange termMatchesWrong)

/-- 'hearsaylaw02.TermBinds': WHATEVER THE INPUT: true; the input reads as it did. -/
def termBindsSpec : ChangeSpec := { name := "termBinds", fn := fun _ => fun
  | [d1, d2, d3] => { results := [.lit (.bool true)], args := [d1, d2, d3] }
  | _ => none }
def termBindsRow : OpenClaim := { program := "ytnomgmlfagiffaadoor", sum := "adb761be1284fbf125153e601e309a79bbff132ddc16b5e4434db391f6687f8a", func := "hearsay/hearsaylaw02.TermBinds", spec := "termBinds", unfollowed := true, recurses := true, named := ["hearsay/hearsaylaw02.late", "hearsay/hearsaylaw02.mark", "hearsay/term.none"], plainKeys := false, apart := false, laid := [("hearsay/term.none", laid_hearsay_term_none), ("hearsay/hearsaylaw02.mark", laid_hearsay_hearsaylaw02_mark), ("hearsay/hearsaylaw02.late", laid_hearsay_hearsaylaw02_late)] }
def TermBindsSaid : Prop := termBindsRow.holds Tryd.pinned (OpenSpec.ofChange termBindsSpec)

/-- ITS FALSE NEIGHBOUR: 'it returns false'. Refute it at one input. -/
def termBindsWrong : ChangeSpec := { name := "termBinds", fn := fun _ => fun
  | [d1, d2, d3] => { results := [.lit (.bool false)], args := [d1, d2, d3] }
  | _ => none }
def TermBindsWrongFalsely : Prop := termBindsRow.holds Tryd.pinned (OpenSpec.ofChange termBindsWrong)

/-- 'hearsaylaw02.TermMakes': WHATEVER THE INPUT: true; the input reads as it did. -/
def termMakesSpec : ChangeSpec := { name := "termMakes", fn := fun _ => fun
  | [d1, d2, d3] => { results := [.lit (.bool true)], args := [d1, d2, d3] }
  | _ => none }
def termMakesRow : OpenClaim := { program := "ytnomgmlfagiffaadoor", sum := "adb761be1284fbf125153e601e309a79bbff132ddc16b5e4434db391f6687f8a", func := "hearsay/hearsaylaw02.TermMakes", spec := "termMakes", unfollowed := true, recurses := true, named := ["hearsay/term.none"], plainKeys := false, apart := false, laid := [("hearsay/term.none", laid_hearsay_term_none)] }
def TermMakesSaid : Prop := termMakesRow.holds Tryd.pinned (OpenSpec.ofChange termMakesSpec)

/-- ITS FALSE NEIGHBOUR: 'it returns false'. Refute it at one input. -/
def termMakesWrong : ChangeSpec := { name := "termMakes", fn := fun _ => fun
  | [d1, d2, d3] => { results := [.lit (.bool false)], args := [d1, d2, d3] }
  | _ => none }
def TermMakesWrongFalsely : Prop := termMakesRow.holds Tryd.pinned (OpenSpec.ofChange termMakesWrong)

/-- 'hearsaylaw02.TermUnified': WHATEVER THE INPUT: true; the input reads as it did. -/
def termUnifiedSpec : ChangeSpec := { name := "termUnified", fn := fun _ => fun
  | [d1, d2] => { results := [.lit (.bool true)], args := [d1, d2] }
  | _ => none }
def termUnifiedRow : OpenClaim := { program := "ytnomgmlfagiffaadoor", sum := "adb761be1284fbf125153e601e309a79bbff132ddc16b5e4434db391f6687f8a", func := "hearsay/hearsaylaw02.TermUnified", spec := "termUnified", unfollowed := true, recurses := true, named := ["hearsay/hearsaylaw02.mark"], plainKeys := false, apart := false, laid := [("hearsay/hearsaylaw02.mark", laid_hearsay_hearsaylaw02_mark)] }
def TermUnifiedSaid : Prop := termUnifiedRow.holds Tryd.pinned (OpenSpec.ofChange termUnifiedSpec)

/-- ITS FALSE NEIGHBOUR: 'it returns false'. Refute it at one input. -/
def termUnifiedWrong : ChangeSpec := { name := "termUnified", fn := fun _ => fun
  | [d1, d2] => { results := [.lit (.bool false)], args := [d1, d2] }
  | _ => none }
def TermUnifiedWrongFalsely : Prop := termUnifiedRow.holds Tryd.pinned (OpenSpec.ofChange termUnifiedWrong)

/-- 'hearsaylaw02.TermTests': WHATEVER THE INPUT: true; the input reads as it did. -/
def termTestsSpec : ChangeSpec := { name := "termTests", fn := fun _ => fun
  | [d1, d2] => { results := [.lit (.bool true)], args := [d1, d2] }
  | _ => none }
def termTestsRow : OpenClaim := { program := "ytnomgmlfagiffaadoor", sum := "adb761be1284fbf125153e601e309a79bbff132ddc16b5e4434db391f6687f8a", func := "hearsay/hearsaylaw02.TermTests", spec := "termTests", inPlace := ["internal/bytealg.abigen_runtime_cmpstring"], unfollowed := true, recurses := true, named := ["hearsay/hearsaylaw02.late", "hearsay/term.none"], plainKeys := false, apart := false, laid := [("hearsay/term.none", laid_hearsay_term_none), ("hearsay/hearsaylaw02.late", laid_hearsay_hearsaylaw02_late)] }
def TermTestsSaid : Prop := termTestsRow.holds Tryd.pinned (OpenSpec.ofChange termTestsSpec)

/-- ITS FALSE NEIGHBOUR: 'it returns false'. Refute it at one input. -/
def termTestsWrong : ChangeSpec := { name := "termTests", fn := fun _ => fun
  | [d1, d2] => { results := [.lit (.bool false)], args := [d1, d2] }
  | _ => none }
def TermTestsWrongFalsely : Prop := termTestsRow.holds Tryd.pinned (OpenSpec.ofChange termTestsWrong)

/-- 'hearsaylaw02.TermDecides': WHATEVER THE INPUT: true; the input reads as it did. -/
def termDecidesSpec : ChangeSpec := { name := "termDecides", fn := fun _ => fun
  | [d1, d2] => { results := [.lit (.bool true)], args := [d1, d2] }
  | _ => none }
def termDecidesRow : OpenClaim := { program := "ytnomgmlfagiffaadoor", sum := "adb761be1284fbf125153e601e309a79bbff132ddc16b5e4434db391f6687f8a", func := "hearsay/hearsaylaw02.TermDecides", spec := "termDecides", inPlace := ["internal/bytealg.abigen_runtime_cmpstring"], unfollowed := true, recurses := true, named := ["hearsay/term.none"], plainKeys := false, apart := false, laid := [("hearsay/term.none", laid_hearsay_term_none)] }
def TermDecidesSaid : Prop := termDecidesRow.holds Tryd.pinned (OpenSpec.ofChange termDecidesSpec)

/-- ITS FALSE NEIGHBOUR: 'it returns false'. Refute it at one input. -/
def termDecidesWrong : ChangeSpec := { name := "termDecides", fn := fun _ => fun
  | [d1, d2] => { results := [.lit (.bool false)], args := [d1, d2] }
  | _ => none }
def TermDecidesWrongFalsely : Prop := termDecidesRow.holds Tryd.pinned (OpenSpec.ofChange termDecidesWrong)

/-- 'hearsaylaw02.TermUnifies': WHATEVER THE INPUT: true; the input reads as it did. -/
def termUnifiesSpec : ChangeSpec := { name := "termUnifies", fn := fun _ => fun
  | [d1, d2, d3] => { results := [.lit (.bool true)], args := [d1, d2, d3] }
  | _ => none }
def termUnifiesRow : OpenClaim := { program := "ytnomgmlfagiffaadoor", sum := "adb761be1284fbf125153e601e309a79bbff132ddc16b5e4434db391f6687f8a", func := "hearsay/hearsaylaw02.TermUnifies", spec := "termUnifies", unfollowed := true, recurses := true, named := ["hearsay/term.none"], plainKeys := false, apart := false, laid := [("hearsay/term.none", laid_hearsay_term_none)] }
def TermUnifiesSaid : Prop := termUnifiesRow.holds Tryd.pinned (OpenSpec.ofChange termUnifiesSpec)

/-- ITS FALSE NEIGHBOUR: 'it returns false'. Refute it at one input. -/
def termUnifiesWrong : ChangeSpec := { name := "termUnifies", fn := fun _ => fun
  | [d1, d2, d3] => { results := [.lit (.bool false)], args := [d1, d2, d3] }
  | _ => none }
def TermUnifiesWrongFalsely : Prop := termUnifiesRow.holds Tryd.pinned (OpenSpec.ofChange termUnifiesWrong)

/-- 'hearsaylaw02.TermAtoms': WHATEVER THE INPUT: true; the input reads as it did. -/
def termAtomsSpec : ChangeSpec := { name := "termAtoms", fn := fun _ => fun
  | [d1, d2] => { results := [.lit (.bool true)], args := [d1, d2] }
  | _ => none }
def termAtomsRow : OpenClaim := { program := "ytnomgmlfagiffaadoor", sum := "adb761be1284fbf125153e601e309a79bbff132ddc16b5e4434db391f6687f8a", func := "hearsay/hearsaylaw02.TermAtoms", spec := "termAtoms", inPlace := ["internal/bytealg.abigen_runtime_cmpstring"], unfollowed := true, recurses := true, named := ["hearsay/hearsaylaw02.mark", "hearsay/term.none"], plainKeys := false, apart := false, laid := [("hearsay/term.none", laid_hearsay_term_none), ("hearsay/hearsaylaw02.mark", laid_hearsay_hearsaylaw02_mark)] }
def TermAtomsSaid : Prop := termAtomsRow.holds Tryd.pinned (OpenSpec.ofChange termAtomsSpec)

/-- ITS FALSE NEIGHBOUR: 'it returns false'. Refute it at one input. -/
def termAtomsWrong : ChangeSpec := { name := "termAtoms", fn := fun _ => fun
  | [d1, d2] => { results := [.lit (.bool false)], args := [d1, d2] }
  | _ => none }
def TermAtomsWrongFalsely : Prop := termAtomsRow.holds Tryd.pinned (OpenSpec.ofChange termAtomsWrong)

/-- 'hearsaylaw02.TermOwn': WHATEVER THE INPUT: true; the input reads as it did. -/
def termOwnSpec : ChangeSpec := { name := "termOwn", fn := fun _ => fun
  | [d1, d2, d3] => { results := [.lit (.bool true)], args := [d1, d2, d3] }
  | _ => none }
def termOwnRow : OpenClaim := { program := "ytnomgmlfagiffaadoor", sum := "adb761be1284fbf125153e601e309a79bbff132ddc16b5e4434db391f6687f8a", func := "hearsay/hearsaylaw02.TermOwn", spec := "termOwn", inPlace := ["internal/bytealg.abigen_runtime_cmpstring"], unfollowed := true, recurses := true, named := ["hearsay/hearsaylaw02.mark", "hearsay/hearsaylaw02.late", "hearsay/term.none"], plainKeys := false, apart := false, laid := [("hearsay/term.none", laid_hearsay_term_none), ("hearsay/hearsaylaw02.mark", laid_hearsay_hearsaylaw02_mark), ("hearsay/hearsaylaw02.late", laid_hearsay_hearsaylaw02_late)] }
def TermOwnSaid : Prop := termOwnRow.holds Tryd.pinned (OpenSpec.ofChange termOwnSpec)

/-- ITS FALSE NEIGHBOUR: 'it returns false'. Refute it at one input. -/
def termOwnWrong : ChangeSpec := { name := "termOwn", fn := fun _ => fun
  | [d1, d2, d3] => { results := [.lit (.bool false)], args := [d1, d2, d3] }
  | _ => none }
def TermOwnWrongFalsely : Prop := termOwnRow.holds Tryd.pinned (OpenSpec.ofChange termOwnWrong)

/- THE SECOND FORM. 'bulk': how many values and letters a reading holds, each counted each time it is reached (what is shared counts as often as it is met; a slice's spare places count too). A statement '..UptoSaid' is the law's where the arguments, and the package variables that the reading takes, are together of bulk at most 1048576: NARROWER than '..Said'. Prove '..Said' where nothing that the law and all that it calls make is longer than what came in: it says more and counts as full. Else prove '..UptoSaid'. A law counts once. -/
mutual
def uptoBulk {H : Type} : DataW H → Nat
  | .lit (.string bytes) => bytes.length + 1
  | .lit _ => 1
  | .nil => 1
  | .ptr d => uptoBulk d + 1
  | .slice elems spare => uptoBulkAll elems + uptoBulkAll spare + 1
  | .agg parts => uptoBulkAll parts + 1
  | .iface _ d => uptoBulk d + 1
  | .map entries => uptoBulkEntries entries + 1
  | .held _ => 1
def uptoBulkAll {H : Type} : List (DataW H) → Nat
  | [] => 0
  | d :: r => uptoBulk d + uptoBulkAll r
def uptoBulkEntries {H : Type} : List (Lit × DataW H) → Nat
  | [] => 0
  | x :: r => uptoBulkEntry x + uptoBulkEntries r
def uptoBulkEntry {H : Type} : Lit × DataW H → Nat
  | (.string bytes, d) => bytes.length + uptoBulk d + 1
  | (_, d) => uptoBulk d + 1
 end
def uptoSmall : (H : Type) → List (DataW H) → Bool := fun _ ds => decide (uptoBulkAll ds ≤ 1048576)
def OpenSpec.upto (s : _root_.Go.ChangeSpec) : _root_.Go.OpenSpec := { _root_.Go.OpenSpec.ofChange s with cond := some uptoSmall }

/-- 'hearsaylaw02.TermMatches', WHERE WHAT IT READS IS OF BULK AT MOST 1048576: true; the input reads as it did. -/
def termMatchesUptoRow : OpenClaim := { program := "ytnomgmlfagiffaadoor", sum := "adb761be1284fbf125153e601e309a79bbff132ddc16b5e4434db391f6687f8a", func := "hearsay/hearsaylaw02.TermMatches", spec := "termMatches", unfollowed := true, recurses := true, named := ["hearsay/hearsaylaw02.late", "hearsay/hearsaylaw02.mark"], plainKeys := false, apart := false, laid := [("hearsay/hearsaylaw02.mark", laid_hearsay_hearsaylaw02_mark), ("hearsay/hearsaylaw02.late", laid_hearsay_hearsaylaw02_late)], narrowed := true }
def TermMatchesUptoSaid : Prop := termMatchesUptoRow.holds Tryd.pinned (OpenSpec.upto termMatchesSpec)

/-- 'hearsaylaw02.TermBinds', WHERE WHAT IT READS IS OF BULK AT MOST 1048576: true; the input reads as it did. -/
def termBindsUptoRow : OpenClaim := { program := "ytnomgmlfagiffaadoor", sum := "adb761be1284fbf125153e601e309a79bbff132ddc16b5e4434db391f6687f8a", func := "hearsay/hearsaylaw02.TermBinds", spec := "termBinds", unfollowed := true, recurses := true, named := ["hearsay/hearsaylaw02.late", "hearsay/hearsaylaw02.mark", "hearsay/term.none"], plainKeys := false, apart := false, laid := [("hearsay/term.none", laid_hearsay_term_none), ("hearsay/hearsaylaw02.mark", laid_hearsay_hearsaylaw02_mark), ("hearsay/hearsaylaw02.late", laid_hearsay_hearsaylaw02_late)], narrowed := true }
def TermBindsUptoSaid : Prop := termBindsUptoRow.holds Tryd.pinned (OpenSpec.upto termBindsSpec)

/-- 'hearsaylaw02.TermMakes', WHERE WHAT IT READS IS OF BULK AT MOST 1048576: true; the input reads as it did. -/
def termMakesUptoRow : OpenClaim := { program := "ytnomgmlfagiffaadoor", sum := "adb761be1284fbf125153e601e309a79bbff132ddc16b5e4434db391f6687f8a", func := "hearsay/hearsaylaw02.TermMakes", spec := "termMakes", unfollowed := true, recurses := true, named := ["hearsay/term.none"], plainKeys := false, apart := false, laid := [("hearsay/term.none", laid_hearsay_term_none)], narrowed := true }
def TermMakesUptoSaid : Prop := termMakesUptoRow.holds Tryd.pinned (OpenSpec.upto termMakesSpec)

/-- 'hearsaylaw02.TermUnified', WHERE WHAT IT READS IS OF BULK AT MOST 1048576: true; the input reads as it did. -/
def termUnifiedUptoRow : OpenClaim := { program := "ytnomgmlfagiffaadoor", sum := "adb761be1284fbf125153e601e309a79bbff132ddc16b5e4434db391f6687f8a", func := "hearsay/hearsaylaw02.TermUnified", spec := "termUnified", unfollowed := true, recurses := true, named := ["hearsay/hearsaylaw02.mark"], plainKeys := false, apart := false, laid := [("hearsay/hearsaylaw02.mark", laid_hearsay_hearsaylaw02_mark)], narrowed := true }
def TermUnifiedUptoSaid : Prop := termUnifiedUptoRow.holds Tryd.pinned (OpenSpec.upto termUnifiedSpec)

/-- 'hearsaylaw02.TermTests', WHERE WHAT IT READS IS OF BULK AT MOST 1048576: true; the input reads as it did. -/
def termTestsUptoRow : OpenClaim := { program := "ytnomgmlfagiffaadoor", sum := "adb761be1284fbf125153e601e309a79bbff132ddc16b5e4434db391f6687f8a", func := "hearsay/hearsaylaw02.TermTests", spec := "termTests", inPlace := ["internal/bytealg.abigen_runtime_cmpstring"], unfollowed := true, recurses := true, named := ["hearsay/hearsaylaw02.late", "hearsay/term.none"], plainKeys := false, apart := false, laid := [("hearsay/term.none", laid_hearsay_term_none), ("hearsay/hearsaylaw02.late", laid_hearsay_hearsaylaw02_late)], narrowed := true }
def TermTestsUptoSaid : Prop := termTestsUptoRow.holds Tryd.pinned (OpenSpec.upto termTestsSpec)

/-- 'hearsaylaw02.TermDecides', WHERE WHAT IT READS IS OF BULK AT MOST 1048576: true; the input reads as it did. -/
def termDecidesUptoRow : OpenClaim := { program := "ytnomgmlfagiffaadoor", sum := "adb761be1284fbf125153e601e309a79bbff132ddc16b5e4434db391f6687f8a", func := "hearsay/hearsaylaw02.TermDecides", spec := "termDecides", inPlace := ["internal/bytealg.abigen_runtime_cmpstring"], unfollowed := true, recurses := true, named := ["hearsay/term.none"], plainKeys := false, apart := false, laid := [("hearsay/term.none", laid_hearsay_term_none)], narrowed := true }
def TermDecidesUptoSaid : Prop := termDecidesUptoRow.holds Tryd.pinned (OpenSpec.upto termDecidesSpec)

/-- 'hearsaylaw02.TermUnifies', WHERE WHAT IT READS IS OF BULK AT MOST 1048576: true; the input reads as it did. -/
def termUnifiesUptoRow : OpenClaim := { program := "ytnomgmlfagiffaadoor", sum := "adb761be1284fbf125153e601e309a79bbff132ddc16b5e4434db391f6687f8a", func := "hearsay/hearsaylaw02.TermUnifies", spec := "termUnifies", unfollowed := true, recurses := true, named := ["hearsay/term.none"], plainKeys := false, apart := false, laid := [("hearsay/term.none", laid_hearsay_term_none)], narrowed := true }
def TermUnifiesUptoSaid : Prop := termUnifiesUptoRow.holds Tryd.pinned (OpenSpec.upto termUnifiesSpec)

/-- 'hearsaylaw02.TermAtoms', WHERE WHAT IT READS IS OF BULK AT MOST 1048576: true; the input reads as it did. -/
def termAtomsUptoRow : OpenClaim := { program := "ytnomgmlfagiffaadoor", sum := "adb761be1284fbf125153e601e309a79bbff132ddc16b5e4434db391f6687f8a", func := "hearsay/hearsaylaw02.TermAtoms", spec := "termAtoms", inPlace := ["internal/bytealg.abigen_runtime_cmpstring"], unfollowed := true, recurses := true, named := ["hearsay/hearsaylaw02.mark", "hearsay/term.none"], plainKeys := false, apart := false, laid := [("hearsay/term.none", laid_hearsay_term_none), ("hearsay/hearsaylaw02.mark", laid_hearsay_hearsaylaw02_mark)], narrowed := true }
def TermAtomsUptoSaid : Prop := termAtomsUptoRow.holds Tryd.pinned (OpenSpec.upto termAtomsSpec)

/-- 'hearsaylaw02.TermOwn', WHERE WHAT IT READS IS OF BULK AT MOST 1048576: true; the input reads as it did. -/
def termOwnUptoRow : OpenClaim := { program := "ytnomgmlfagiffaadoor", sum := "adb761be1284fbf125153e601e309a79bbff132ddc16b5e4434db391f6687f8a", func := "hearsay/hearsaylaw02.TermOwn", spec := "termOwn", inPlace := ["internal/bytealg.abigen_runtime_cmpstring"], unfollowed := true, recurses := true, named := ["hearsay/hearsaylaw02.mark", "hearsay/hearsaylaw02.late", "hearsay/term.none"], plainKeys := false, apart := false, laid := [("hearsay/term.none", laid_hearsay_term_none), ("hearsay/hearsaylaw02.mark", laid_hearsay_hearsaylaw02_mark), ("hearsay/hearsaylaw02.late", laid_hearsay_hearsaylaw02_late)], narrowed := true }
def TermOwnUptoSaid : Prop := termOwnUptoRow.holds Tryd.pinned (OpenSpec.upto termOwnSpec)

end Rows
end Go.Proofs.YtnomgmlfagiffaaDoor
