/- Plain functions on terms: what the given functions of package term compute. No machine in them. -/
import Derived.Test.YtnomgmlfagiffaaDoorT0Mt
import Derived.Lib.Bytealg
import Derived.Lib.Small
set_option linter.unusedVariables false
namespace Go.Proofs.YtnomgmlfagiffaaDoor.T
open Go.RowKit Go.Proofs.YtnomgmlfagiffaaDoorW.PrintWords
abbrev Tm := S23
abbrev Bd := S44
/-- Two terms, field by field, as the walk spells it. -/
def eqT (a b : Tm) : Bool := a.f0 == b.f0 && (a.f1 == b.f1 && (a.f2.toList == b.f2.toList))
def isVar (t : Tm) : Bool := decide (t.f0 = 3) && (decide (0 ≤ t.f1) && (t.f2.toList == ([] : List UInt8)))
/-- An int's bounds. -/
def inI (x : Int) : Bool := decide (-9223372036854775808 ≤ x) && decide (x ≤ 9223372036854775807)
def okT (t : Tm) : Bool := inI t.f0 && (inI t.f1 && decide (t.f2.size ≤ 9223372036854775807))
def okB (b : Bd) : Bool := inI b.f0 && okT b.f1
def getM (m : List Bd) (v : Int) : Option Tm := (m.find? fun b => b.f0 == v).map (·.f1)
def putM (v : Int) (t : Tm) : List Bd → List Bd
  | [] => [⟨v, t⟩]
  | b :: r => if v < b.f0 then ⟨v, t⟩ :: b :: r else if b.f0 = v then ⟨v, t⟩ :: r else b :: putM v t r
def startM (s : List Bd) : List Bd := s.foldl (fun m b => if (getM m b.f0).isSome then m else putM b.f0 b.f1 m) []
def stepM : List Tm → List Tm → List Bd → Option (List Bd)
  | [], _, m => some m
  | _ :: _, [], _ => none
  | t :: p, a :: q, m =>
    if isVar t then
      (match getM m t.f1 with
       | some was => if eqT was a then stepM p q (putM t.f1 a m) else none
       | none => stepM p q (putM t.f1 a m))
    else if eqT t a then stepM p q m else none
def smallN : Nat := 1099511627776
def matchL (n0 : ByteArray) (p : List Tm) (n1 : ByteArray) (q : List Tm) (s : List Bd) (by0 by1 : Tm) : List Bd × Bool :=
  if n0.toList ≠ n1.toList ∨ p.length ≠ q.length ∨ (isVar by0 = true ∧ by1.f0 = 0) then ([], false)
  else match stepM (by0 :: p) (by1 :: q) (startM s) with
    | some m => (m, true)
    | none => ([], false)
def term_Match.f (a0_0 : Int) (a0_1 : Int) (a0_2 : ByteArray) (a0_3 : ByteArray) (l0_4 : List Tm) (a1_0 : Int) (a1_1 : Int) (a1_2 : ByteArray) (a1_3 : ByteArray) (l1_4 : List Tm) (l2 : List Bd) : Option (List Bd × Bool) :=
  if (okT ⟨a0_0, a0_1, a0_2⟩ && okT ⟨a1_0, a1_1, a1_2⟩ && l0_4.all okT && l1_4.all okT && l2.all okB && decide (l0_4.length < smallN) && decide (l1_4.length < smallN) && decide (l2.length < smallN)) = true then
    some (matchL a0_3 l0_4 a1_3 l1_4 l2 ⟨a0_0, a0_1, a0_2⟩ ⟨a1_0, a1_1, a1_2⟩)
  else none
def varsL (l : List Tm) (out : List Int) : List Int := l.foldl (fun out t => if isVar t && !out.contains t.f1 then out ++ [t.f1] else out) out
def term_Vars.f (a0_0 : Int) (a0_1 : Int) (a0_2 : ByteArray) (a0_3 : ByteArray) (l0_4 : List Tm) : Option (List Int) :=
  if l0_4.length < smallN then some (varsL (⟨a0_0, a0_1, a0_2⟩ :: l0_4) []) else none
end Go.Proofs.YtnomgmlfagiffaaDoor.T
