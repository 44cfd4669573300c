/- The code of hearsaylaw18.KeysIdeal from its region 26 on. -/
import Derived.Test.YtoigoiefnapokaaDoorGKJoin
import Derived.Test.YtoigoiefnapokaaDoorGKXor
set_option linter.unusedVariables false
set_option linter.unusedSimpArgs false
namespace Go.Proofs.YtoigoiefnapokaaDoor.T
open Go.RowKit Go.Maps Go.MuLone Go.Proofs.YtoigoiefnapokaaDoorW.PrintWords Go.Proofs.YtoigoiefnapokaaDoorW.PrintLast
/-- What follows in a sequence; what stands first; a block's inside; a function's code. -/
def codeNext : Code → Code
  | .seq _ b => b
  | c => c
def codeFirst : Code → Code
  | .seq a _ => a
  | c => c
def codeIn : Code → Code
  | .block _ a => a
  | .loop a => a
  | c => c
def codeOf (f : Func) : Code := f.body.getD .skip
noncomputable def tailCode : Code := codeNext (codeNext (codeNext (codeNext (codeNext (codeNext (codeNext (codeNext (codeNext (codeNext (codeNext (codeNext (codeNext (codeNext (codeNext (codeOf Tryd.f3)))))))))))))))
noncomputable def in5 : Code := (codeIn (codeFirst (codeNext (codeIn (codeIn (codeNext (codeFirst (codeNext (codeIn (codeFirst (codeNext (codeIn (codeIn (codeNext (codeFirst tailCode)))))))))))))))
/-- The code ends normally and leaves what F says in the temporaries ks. -/
def joined (P : Program) (c : Code) (ks : List Tmp) (F : (Tmp → Value) → World → Prop) (a : Act) (w : World) : Prop :=
  Code.wp P c (fun e a' w' => e = .normal ∧ a' = putAll a (ks.map fun n => (n, a'.tmps.getD n undef)) ∧ F (fun n => a'.tmps.getD n undef) w') a w
end Go.Proofs.YtoigoiefnapokaaDoor.T
