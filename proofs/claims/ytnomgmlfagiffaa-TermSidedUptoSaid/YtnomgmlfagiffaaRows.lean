/-
  No cell of these rows narrows 'for every input' (looked for: loops, veiled, ifaces, maps, wideKeys, modest, calm, conditions, laid).
  DERIVED. THE GIVEN ROWS OF THIS SEAT. 3 by the template 'for every input the law returns true; each argument reads behind the call as it read before'; 0 by the template 'total and deterministic' (their statements: YtnomgmlfagiffaaTotals.lean).
  GIVEN WITH THE SEED: the statements are not yours to turn. If you find one false, say at which input.
  Laid BY PROGRAM, IN A SANDBOX (cutbox-rows.mjs): the forced cells as the released guide's own fill.sh prints them over the translation bd3844642c58d4cd… (all of the seat's roots in one cut). By AI agents, Wed Nov 11 2026. No macro, syntax, notation, axiom, sorry.
-/
import Derived.Test.YtnomgmlfagiffaaChecked
import GoSem.Claim
import GoSem.ClaimJoined
import GoSem.ClaimMapViews
import Derived.JoinedTies
import Derived.KernelRfl
namespace Go.Proofs.Ytnomgmlfagiffaa
/- THE CELL 'sum', in the pinned program and in every row, IS THE sha256 OF THE DUMP (.gsa) THAT YtnomgmlfagiffaaProg.lean LOADS. Nothing in Lean hashes anything: it is a label: what it is worth is what the hold of that sum in a sandbox is worth. -/
noncomputable def Try.pinned : Pinned := { name := "ytnomgmlfagiffaa", sum := "bd3844642c58d4cdb7cabf3491b264fbb53c998685067f8805c841f91bd6de04", checked := Try.checked }
namespace Rows
def none {H : Type} : Left H := { results := [], args := [] }

/-- 'hearsaylaw02.TermKinds': WHATEVER THE INPUT: true; the input reads as it did. -/
def termKindsSpec : ChangeSpec := { name := "termKinds", fn := fun _ => fun
  | [d1, d2] => { results := [.lit (.bool true)], args := [d1, d2] }
  | _ => none }
def termKindsRow : OpenClaim := { program := "ytnomgmlfagiffaa", sum := "bd3844642c58d4cdb7cabf3491b264fbb53c998685067f8805c841f91bd6de04", func := "hearsay/hearsaylaw02.TermKinds", spec := "termKinds", inPlace := ["internal/bytealg.abigen_runtime_cmpstring"], unfollowed := true, recurses := true, plainKeys := false, apart := false }
def TermKindsSaid : Prop := termKindsRow.holds Try.pinned (OpenSpec.ofChange termKindsSpec)

/-- ITS FALSE NEIGHBOUR: 'it returns false'. Refute it at one input. -/
def termKindsWrong : ChangeSpec := { name := "termKinds", fn := fun _ => fun
  | [d1, d2] => { results := [.lit (.bool false)], args := [d1, d2] }
  | _ => none }
def TermKindsWrongFalsely : Prop := termKindsRow.holds Try.pinned (OpenSpec.ofChange termKindsWrong)

/-- 'hearsaylaw02.TermOrder': WHATEVER THE INPUT: true; the input reads as it did. -/
def termOrderSpec : ChangeSpec := { name := "termOrder", fn := fun _ => fun
  | [d1, d2, d3] => { results := [.lit (.bool true)], args := [d1, d2, d3] }
  | _ => none }
def termOrderRow : OpenClaim := { program := "ytnomgmlfagiffaa", sum := "bd3844642c58d4cdb7cabf3491b264fbb53c998685067f8805c841f91bd6de04", func := "hearsay/hearsaylaw02.TermOrder", spec := "termOrder", inPlace := ["internal/bytealg.abigen_runtime_cmpstring"], unfollowed := true, recurses := true, plainKeys := false, apart := false }
def TermOrderSaid : Prop := termOrderRow.holds Try.pinned (OpenSpec.ofChange termOrderSpec)

/-- ITS FALSE NEIGHBOUR: 'it returns false'. Refute it at one input. -/
def termOrderWrong : ChangeSpec := { name := "termOrder", fn := fun _ => fun
  | [d1, d2, d3] => { results := [.lit (.bool false)], args := [d1, d2, d3] }
  | _ => none }
def TermOrderWrongFalsely : Prop := termOrderRow.holds Try.pinned (OpenSpec.ofChange termOrderWrong)

/-- 'hearsaylaw02.TermSided': WHATEVER THE INPUT: true; the input reads as it did. -/
def termSidedSpec : ChangeSpec := { name := "termSided", fn := fun _ => fun
  | [d1, d2] => { results := [.lit (.bool true)], args := [d1, d2] }
  | _ => none }
def termSidedRow : OpenClaim := { program := "ytnomgmlfagiffaa", sum := "bd3844642c58d4cdb7cabf3491b264fbb53c998685067f8805c841f91bd6de04", func := "hearsay/hearsaylaw02.TermSided", spec := "termSided", unfollowed := true, recurses := true, plainKeys := false, apart := false }
def TermSidedSaid : Prop := termSidedRow.holds Try.pinned (OpenSpec.ofChange termSidedSpec)

/-- ITS FALSE NEIGHBOUR: 'it returns false'. Refute it at one input. -/
def termSidedWrong : ChangeSpec := { name := "termSided", fn := fun _ => fun
  | [d1, d2] => { results := [.lit (.bool false)], args := [d1, d2] }
  | _ => none }
def TermSidedWrongFalsely : Prop := termSidedRow.holds Try.pinned (OpenSpec.ofChange termSidedWrong)

/- THE SECOND FORM. 'bulk': how many values and letters a reading holds, each counted each time it is reached (what is shared counts as often as it is met; a slice's spare places count too). A statement '..UptoSaid' is the law's where the arguments, and the package variables that the reading takes, are together of bulk at most 1048576: NARROWER than '..Said'. Prove '..Said' where nothing that the law and all that it calls make is longer than what came in: it says more and counts as full. Else prove '..UptoSaid'. A law counts once. -/
mutual
def uptoBulk {H : Type} : DataW H → Nat
  | .lit (.string bytes) => bytes.length + 1
  | .lit _ => 1
  | .nil => 1
  | .ptr d => uptoBulk d + 1
  | .slice elems spare => uptoBulkAll elems + uptoBulkAll spare + 1
  | .agg parts => uptoBulkAll parts + 1
  | .iface _ d => uptoBulk d + 1
  | .map entries => uptoBulkEntries entries + 1
  | .held _ => 1
def uptoBulkAll {H : Type} : List (DataW H) → Nat
  | [] => 0
  | d :: r => uptoBulk d + uptoBulkAll r
def uptoBulkEntries {H : Type} : List (Lit × DataW H) → Nat
  | [] => 0
  | x :: r => uptoBulkEntry x + uptoBulkEntries r
def uptoBulkEntry {H : Type} : Lit × DataW H → Nat
  | (.string bytes, d) => bytes.length + uptoBulk d + 1
  | (_, d) => uptoBulk d + 1
 end
def uptoSmall : (H : Type) → List (DataW H) → Bool := fun _ ds => decide (uptoBulkAll ds ≤ 1048576)
def OpenSpec.upto (s : _root_.Go.ChangeSpec) : _root_.Go.OpenSpec := { _root_.Go.OpenSpec.ofChange s with cond := some uptoSmall }

/-- 'hearsaylaw02.TermKinds', WHERE WHAT IT READS IS OF BULK AT MOST 1048576: true; the input reads as it did. -/
def termKindsUptoRow : OpenClaim := { program := "ytnomgmlfagiffaa", sum := "bd3844642c58d4cdb7cabf3491b264fbb53c998685067f8805c841f91bd6de04", func := "hearsay/hearsaylaw02.TermKinds", spec := "termKinds", inPlace := ["internal/bytealg.abigen_runtime_cmpstring"], unfollowed := true, recurses := true, plainKeys := false, apart := false, narrowed := true }
def TermKindsUptoSaid : Prop := termKindsUptoRow.holds Try.pinned (OpenSpec.upto termKindsSpec)

/-- 'hearsaylaw02.TermOrder', WHERE WHAT IT READS IS OF BULK AT MOST 1048576: true; the input reads as it did. -/
def termOrderUptoRow : OpenClaim := { program := "ytnomgmlfagiffaa", sum := "bd3844642c58d4cdb7cabf3491b264fbb53c998685067f8805c841f91bd6de04", func := "hearsay/hearsaylaw02.TermOrder", spec := "termOrder", inPlace := ["internal/bytealg.abigen_runtime_cmpstring"], unfollowed := true, recurses := true, plainKeys := false, apart := false, narrowed := true }
def TermOrderUptoSaid : Prop := termOrderUptoRow.holds Try.pinned (OpenSpec.upto termOrderSpec)

/-- 'hearsaylaw02.TermSided', WHERE WHAT IT READS IS OF BULK AT MOST 1048576: true; the input reads as it did. -/
def termSidedUptoRow : OpenClaim := { program := "ytnomgmlfagiffaa", sum := "bd3844642c58d4cdb7cabf3491b264fbb53c998685067f8805c841f91bd6de04", func := "hearsay/hearsaylaw02.TermSided", spec := "termSided", unfollowed := true, recurses := true, plainKeys := false, apart := false, narrowed := true }
def TermSidedUptoSaid : Prop := termSidedUptoRow.holds Try.pinned (OpenSpec.upto termSidedSpec)

end Rows
end Go.Proofs.Ytnomgmlfagiffaa
