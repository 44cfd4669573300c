/- The document's comparison of atoms, and its Settled, in closed form. -/
import Derived.Test.YtnomgmlfagiffaaDoorPureCMt
import Derived.Test.YtnomgmlfagiffaaDoorPureMMt
import Derived.Test.YtnomgmlfagiffaaDoorT11Mt
import Derived.Test.YtnomgmlfagiffaaDoorT12Mt
set_option linter.unusedVariables false
set_option linter.unusedSimpArgs false
namespace Go.Proofs.YtnomgmlfagiffaaDoor.T
open Go.RowKit Go.Lib Go.Proofs.YtnomgmlfagiffaaDoorW.PrintWords Go.Proofs.YtnomgmlfagiffaaDoor.Hs
/-- CompareAtoms: by name, number of arguments, qualifier, arguments. -/
def cmpA (t : Tm) (nm : ByteArray) (l : List Tm) (u : Tm) (nn : ByteArray) (m : List Tm) : Int :=
  orI (compareBytes nm.toList nn.toList) (orI (compareInt l.length m.length) (orI (cmpT t u) (cmpList cmpT l m)))
theorem rlist_f (t u : Tm) (nm nn : ByteArray) (l m : List Tm) (hl : l.length = m.length) (ol : l.all okT = true) (om : m.all okT = true) (ll : l.length < smallN) :
    ∀ (n i : Nat) (c : Int), l.length = i + n → ∃ K, ∀ k, K ≤ k → hearsayref02_CompareAtoms.l0 k c (i : Int) t.f0 t.f1 t.f2 nm l u.f0 u.f1 u.f2 nn m = some (if c = 0 then cmpList cmpT (l.drop i) (m.drop i) else c) := by
  intro n
  induction n with
  | zero =>
    intro i c hi
    refine ⟨1, fun k hk => ?_⟩
    obtain ⟨k, rfl⟩ : ∃ j, k = j + 1 := ⟨k - 1, by omega⟩
    rw [hearsayref02_CompareAtoms.l0, if_neg (show ¬ ((i : Int) < (l.length : Int)) by omega), List.drop_eq_nil_of_le (by omega), List.drop_eq_nil_of_le (by omega)]
    by_cases h : c = 0
    · rw [if_pos h, if_pos h, h]; rfl
    · rw [if_neg h, if_neg h]
  | succ n ih =>
    intro i c hi
    have h1 : i < l.length := by omega
    have h2 : i < m.length := by omega
    obtain ⟨K, hK⟩ := ih (i + 1) (cmpT l[i] m[i]) (by omega)
    have o1 := List.all_eq_true.1 ol _ (List.getElem_mem h1)
    have o2 := List.all_eq_true.1 om _ (List.getElem_mem h2)
    refine ⟨K + 2 * l[i].f2.size + 3, fun k hk => ?_⟩
    obtain ⟨k, rfl⟩ : ∃ j, k = j + 1 := ⟨k - 1, by omega⟩
    rw [hearsayref02_CompareAtoms.l0]
    by_cases h : c = 0
    · rw [if_pos h, if_pos (by omega), if_pos (by omega), if_pos (by omega), rd_at23 _ _ h1, rd_at23 _ _ h2, rcompare_f _ _ o1 o2 k (by omega), wrap_succ i (by omega)]
      simp only [Option.bind_some]
      rw [hK k (by omega), if_pos h, List.drop_eq_getElem_cons h1, List.drop_eq_getElem_cons h2, cmpList]
      by_cases hz : cmpT l[i] m[i] = 0
      · rw [if_pos hz, if_neg (by simp [hz])]
      · rw [if_neg hz, if_pos hz]
    · rw [if_neg h, if_neg h]
theorem rcmpA_f (t u : Tm) (nm nn : ByteArray) (l m : List Tm) (ot : okT t = true) (ou : okT u = true) (hn : nm.size ≤ 9223372036854775807) (hm : nn.size ≤ 9223372036854775807) (ol : l.all okT = true) (om : m.all okT = true) (ll : l.length < smallN) :
    ∃ K, ∀ k, K ≤ k → hearsayref02_CompareAtoms.f k t.f0 t.f1 t.f2 nm l u.f0 u.f1 u.f2 nn m = some (cmpA t nm l u nn m) := by
  have body : ∀ c : Int, (c = 0 → l.length = m.length) → ∃ K, ∀ k, K ≤ k → hearsayref02_CompareAtoms.j0 k c t.f0 t.f1 t.f2 nm l u.f0 u.f1 u.f2 nn m = some (orI c (orI (cmpT t u) (cmpList cmpT l m))) := by
    intro c hc
    by_cases h : c = 0
    · obtain ⟨K, hK⟩ := rlist_f t u nm nn l m (hc h) ol om ll l.length 0 (cmpT t u) (by omega)
      refine ⟨K + 2 * t.f2.size + 4, fun k hk => ?_⟩
      obtain ⟨k, rfl⟩ : ∃ j, k = j + 2 := ⟨k - 2, by omega⟩
      rw [hearsayref02_CompareAtoms.j0, if_pos h, rcompare_f t u ot ou _ (by omega)]
      simp only [Option.bind_some]
      rw [hearsayref02_CompareAtoms.j1]
      have := hK k (by omega)
      simp only [Int.natCast_zero, List.drop_zero] at this
      rw [this, h]
      unfold orI
      by_cases hz : cmpT t u = 0
      · simp [hz]
      · simp [hz]
    · refine ⟨3, fun k hk => ?_⟩
      obtain ⟨k, rfl⟩ : ∃ j, k = j + 3 := ⟨k - 3, by omega⟩
      rw [hearsayref02_CompareAtoms.j0, if_neg h, hearsayref02_CompareAtoms.j1, hearsayref02_CompareAtoms.l0, if_neg h]
      unfold orI
      rw [if_pos h]
  unfold hearsayref02_CompareAtoms.f cmpA
  by_cases h : compareBytes nm.toList nn.toList = 0
  · obtain ⟨K, hK⟩ := body (compareInt l.length m.length) (fun h => by have := (cmpInt.eq _ _).1 h; omega)
    refine ⟨K + 2 * nm.size + 2, fun k hk => ?_⟩
    rw [texts_f nm nn hn hm k (by omega)]
    simp only [Option.bind_some, rints_f]
    rw [if_pos h, hK k (by omega), h]
    rfl
  · obtain ⟨K, hK⟩ := body (compareBytes nm.toList nn.toList) (fun h2 => absurd h2 h)
    refine ⟨K + 2 * nm.size + 2, fun k hk => ?_⟩
    rw [texts_f nm nn hn hm k (by omega)]
    simp only [Option.bind_some]
    rw [if_neg h, hK k (by omega)]
    unfold orI
    rw [if_pos h, if_pos h]
theorem cmpA_zero (t u : Tm) (nm nn : ByteArray) (l m : List Tm) : cmpA t nm l u nn m = 0 ↔ (nm = nn ∧ t = u ∧ l = m) := by
  unfold cmpA orI
  have e1 := cmpBytes.eq nm.toList nn.toList
  have e2 := cmpInt.eq (l.length : Int) m.length
  have e3 := cmpTm.eq t u
  have e4 := (Cmp.list cmpTm).eq l m
  constructor
  · intro h
    split at h
    · exact absurd h (by assumption)
    · split at h
      · exact absurd h (by assumption)
      · split at h
        · exact absurd h (by assumption)
        · rename_i a b c
          exact ⟨ba_ext (e1.1 (by simpa using a)), e3.1 (by simpa using c), e4.1 h⟩
  · rintro ⟨rfl, rfl, rfl⟩
    rw [if_neg (by simp [cmpBytes.self]), if_neg (by simp [cmpInt.self]), if_neg (by simp [cmpTm.self])]
    exact (Cmp.list cmpTm).self _
end Go.Proofs.YtnomgmlfagiffaaDoor.T
