/- Look and Become in closed form: the program's and the document's are the same. -/
import Derived.Test.YtnomgmlfagiffaaDoorGMatchMt
import Derived.Test.YtnomgmlfagiffaaDoorT8Mt
import Derived.Test.YtnomgmlfagiffaaDoorGSpareMt
set_option linter.unusedVariables false
set_option linter.unusedSimpArgs false
namespace Go.Proofs.YtnomgmlfagiffaaDoor.T
open Go.RowKit Go.Lib Go.Proofs.YtnomgmlfagiffaaDoorW.PrintWords
def lookR (s : List Bd) (v : Int) : Int × Int × ByteArray × Bool := match getM s v with | some t => (t.f0, t.f1, t.f2, true) | none => (0, 0, ⟨#[]⟩, false)
theorem getM_cons (b : Bd) (s : List Bd) (v : Int) : getM (b :: s) v = if b.f0 = v then some b.f1 else getM s v := by
  unfold getM
  rw [List.find?_cons]
  by_cases h : b.f0 = v
  · simp [h]
  · rw [show (b.f0 == v) = false by simpa using h, if_neg h]
theorem rlook_f (s : List Bd) (v : Int) (ls : s.length < smallN) : ∀ k, s.length + 1 ≤ k → hearsayref02_Look.f k s v = some (lookR s v) := by
  intro k hk
  unfold hearsayref02_Look.f
  suffices h : ∀ (n i k : Nat), s.length = i + n → n + 1 ≤ k → hearsayref02_Look.l0 k s v (i : Int) = some (lookR (s.drop i) v) from h s.length 0 k (by omega) hk
  intro n
  induction n with
  | zero =>
    intro i k hi hk
    obtain ⟨k, rfl⟩ : ∃ m, k = m + 1 := ⟨k - 1, by omega⟩
    rw [hearsayref02_Look.l0, if_neg (by omega), List.drop_eq_nil_of_le (by omega)]
    rfl
  | succ n ih =>
    intro i k hi hk
    obtain ⟨k, rfl⟩ : ∃ m, k = m + 1 := ⟨k - 1, by omega⟩
    rw [hearsayref02_Look.l0, if_pos (by omega), if_pos (by omega), rd_at44 _ _ (by omega), wrap_succ i (by omega), ih (i + 1) k (by omega) (by omega), List.drop_eq_getElem_cons (show i < s.length by omega)]
    unfold lookR
    rw [getM_cons]
    by_cases h : s[i].f0 = v
    · rw [if_pos h, if_pos h]
    · rw [if_neg h, if_neg h]
def becomeT (s : List Bd) (t : Tm) : Tm := if isVar t then (getM s t.f1).getD t else t
theorem rvar_f (t : Tm) : hearsayref02_Variable.f t.f0 t.f1 t.f2 = some (isVar t) := by
  unfold hearsayref02_Variable.f isVar
  by_cases h : t.f0 = 3
  · by_cases h2 : 0 ≤ t.f1 <;> simp [h, h2]
  · simp [h]
theorem rbecome_f (s : List Bd) (t : Tm) (ls : s.length < smallN) (k : Nat) (hk : s.length + 1 ≤ k) : hearsayref02_Become.f k s t.f0 t.f1 t.f2 = some ((becomeT s t).f0, (becomeT s t).f1, (becomeT s t).f2) := by
  unfold hearsayref02_Become.f becomeT
  rw [rvar_f]
  cases isVar t with
  | false => simp
  | true =>
    simp only [Option.bind_some, if_true, rlook_f s t.f1 ls k hk, lookR]
    cases getM s t.f1 <;> simp
end Go.Proofs.YtnomgmlfagiffaaDoor.T
