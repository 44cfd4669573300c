/- Lengths of what a match answers. -/
import Derived.Test.YtnomgmlfagiffaaDoorPureSMt
import Derived.Test.YtnomgmlfagiffaaDoorGSpareMt
set_option linter.unusedVariables false
set_option linter.unusedSimpArgs false
namespace Go.Proofs.YtnomgmlfagiffaaDoor.T
open Go.RowKit Go.Lib Go.Proofs.YtnomgmlfagiffaaDoorW.PrintWords Go.Proofs.YtnomgmlfagiffaaDoor.Hs
theorem growB_len : ∀ (p q : List Tm) (s : List Bd), (growB p q s).length ≤ s.length + p.length
  | [], _, _ => Nat.le_refl _
  | _ :: _, [], s => Nat.le_add_right _ _
  | t :: p, u :: q, s => by
    rw [growB_cons]
    refine Nat.le_trans (growB_len p q _) ?_
    split
    · simp only [List.length_append, List.length_cons, List.length_nil]; omega
    · simp only [List.length_cons]; omega
theorem matchL_len {nm nn : ByteArray} {l m : List Tm} {s : List Bd} {t u : Tm} {r1 : List Bd} {r2 : Bool} {B : Nat} (hr : matchL nm l nn m s t u = (r1, r2)) (hB : s.length + l.length + 1 < B) : r1.length < B := by
  unfold matchL at hr
  split at hr
  · injection hr with h1 _
    rw [← h1]
    simp only [List.length_nil]
    omega
  · rename_i hc
    have h2 : l.length = m.length := Classical.byContradiction fun h => hc (.inr (.inl h))
    rw [stepM_grow (t :: l) (u :: m) s (by simp [h2])] at hr
    have h3 := startM_len (growB (t :: l) (u :: m) s)
    have h4 := growB_len (t :: l) (u :: m) s
    simp only [List.length_cons] at h4
    split at hr
    · rename_i x hx
      injection hr with h1 _
      split at hx
      · injection hx with hx
        rw [← h1, ← hx]
        omega
      · cases hx
    · injection hr with h1 _
      rw [← h1]
      simp only [List.length_nil]
      omega
theorem bindings_self2 (s : List Bd) (ls : s.length < 3298534883328) : ∀ k, s.length + 1 ≤ k → hearsaylaw02_bindings.f k s s = some true := by
  intro k hk
  unfold hearsaylaw02_bindings.f
  rw [if_pos rfl]
  suffices h : ∀ (n i k : Nat), s.length = i + n → n + 1 ≤ k → hearsaylaw02_bindings.l0 k s s (i : Int) = some true from h s.length 0 k (by omega) hk
  intro n
  induction n with
  | zero =>
    intro i k hi hk
    obtain ⟨k, rfl⟩ : ∃ m, k = m + 1 := ⟨k - 1, by omega⟩
    rw [hearsaylaw02_bindings.l0, if_neg (by omega)]
  | succ n ih =>
    intro i k hi hk
    obtain ⟨k, rfl⟩ : ∃ m, k = m + 1 := ⟨k - 1, by omega⟩
    rw [hearsaylaw02_bindings.l0, if_pos (by omega), if_pos (by omega), if_pos (by omega), if_neg (by simp), show wrap64 ((i : Int) + 1) = ((i + 1 : Nat) : Int) by unfold wrap64; omega]
    exact ih (i + 1) k (by omega) (by omega)
end Go.Proofs.YtnomgmlfagiffaaDoor.T
