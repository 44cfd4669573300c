/- Apply in closed form: the program's and the document's are the same. -/
import Derived.Test.YtnomgmlfagiffaaDoorPureBMt
import Derived.Test.YtnomgmlfagiffaaDoorT4Mt
import Derived.Test.YtnomgmlfagiffaaDoorT9Mt
set_option linter.unusedVariables false
set_option linter.unusedSimpArgs false
namespace Go.Proofs.YtnomgmlfagiffaaDoor.T
open Go.RowKit Go.Lib Go.Proofs.YtnomgmlfagiffaaDoorW.PrintWords
theorem rapply_f (s : List Bd) (t : Tm) (nm : ByteArray) (l : List Tm) (ls : s.length < smallN) (ll : l.length < smallN) (k : Nat) (hk : s.length + l.length + 2 ≤ k) :
    hearsayref02_Apply.f k s t.f0 t.f1 t.f2 nm l = some ((becomeT s t).f0, (becomeT s t).f1, (becomeT s t).f2, nm, l.map (becomeT s)) := by
  unfold hearsayref02_Apply.f
  rw [rbecome_f s t ls k (by omega)]
  simp only [Option.bind_some]
  suffices h : ∀ (n i k : Nat) (out : List Tm) (a b : Int) (c d : ByteArray), l.length = i + n → out.length = i → s.length + n + 2 ≤ k → hearsayref02_Apply.l0 k s (i : Int) t.f0 t.f1 t.f2 nm l a b c d out = some (a, b, c, d, out ++ (l.drop i).map (becomeT s)) from by
    have := h l.length 0 k [] (becomeT s t).f0 (becomeT s t).f1 (becomeT s t).f2 nm (by omega) rfl (by omega)
    simpa using this
  intro n
  induction n with
  | zero =>
    intro i k out a b c d hi ho hk
    obtain ⟨k, rfl⟩ : ∃ m, k = m + 1 := ⟨k - 1, by omega⟩
    rw [hearsayref02_Apply.l0, if_neg (by omega), List.drop_eq_nil_of_le (by omega)]
    simp
  | succ n ih =>
    intro i k out a b c d hi ho hk
    obtain ⟨k, rfl⟩ : ∃ m, k = m + 1 := ⟨k - 1, by omega⟩
    rw [hearsayref02_Apply.l0, if_pos (by omega), if_pos (by omega), rd_at23 _ _ (by omega), rbecome_f s _ ls k (by omega), wrap_succ i (by omega)]
    simp only [Option.bind_some]
    rw [if_pos (by simp [smallN] at ll; omega), ih (i + 1) k _ a b c d (by omega) (by simp [ho]) (by omega), List.drop_eq_getElem_cons (show i < l.length by omega)]
    simp only [List.map_cons, List.append_assoc, List.cons_append, List.nil_append]
end Go.Proofs.YtnomgmlfagiffaaDoor.T
