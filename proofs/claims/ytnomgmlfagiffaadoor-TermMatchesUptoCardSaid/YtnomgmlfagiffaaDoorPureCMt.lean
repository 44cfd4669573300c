/- Tests and comparisons in closed form: the document's. -/
import Derived.Test.YtnomgmlfagiffaaDoorPureAMt
import Derived.Test.YtnomgmlfagiffaaDoorPureBMt
import Derived.Test.YtnomgmlfagiffaaDoorT10Mt
import Derived.Test.YtnomgmlfagiffaaDoorT16Mt
import Derived.Test.YtnomgmlfagiffaaDoorT18Mt
import Derived.Test.YtnomgmlfagiffaaDoorT19Mt
set_option linter.unusedVariables false
set_option linter.unusedSimpArgs false
namespace Go.Proofs.YtnomgmlfagiffaaDoor.T
open Go.RowKit Go.Lib Go.Proofs.YtnomgmlfagiffaaDoorW.PrintWords Go.Proofs.YtnomgmlfagiffaaDoor.Hs
theorem rints_f (a b : Int) : hearsayref02_ints.f a b = some (compareInt a b) := by
  unfold hearsayref02_ints.f compareInt
  split
  · rfl
  · split <;> rfl
theorem ba_get {s : ByteArray} {i : Nat} (h : i < s.size) : ∃ h' : i < s.toList.length, bt s (i : Int) = (s.toList[i].toNat : Int) := by
  have e : s.toList = s.data.toList := toList_data s
  have h1 : i < s.toList.length := by rw [e]; simpa using h
  refine ⟨h1, ?_⟩
  unfold bt
  simp only [Int.toNat_natCast]
  rw [dif_pos h]
  congr 2
  simp only [e]
  rfl
theorem ba_len (s : ByteArray) : s.toList.length = s.size := by rw [toList_data]; rfl
theorem texts_f (a b : ByteArray) (ha : a.size ≤ 9223372036854775807) (hb : b.size ≤ 9223372036854775807) : ∀ k, 2 * a.size + 2 ≤ k → hearsayref02_Texts.f k a b = some (compareBytes a.toList b.toList) := by
  intro k hk
  unfold hearsayref02_Texts.f
  suffices h : ∀ (n i k : Nat), a.size = i + n → i ≤ b.size → 2 * n + 2 ≤ k → hearsayref02_Texts.l0 k a b (i : Int) = some (compareBytes (a.toList.drop i) (b.toList.drop i)) from h a.size 0 k (by omega) (by omega) hk
  have la := ba_len a
  have lb := ba_len b
  intro n
  induction n with
  | zero =>
    intro i k hi hib hk
    obtain ⟨k, rfl⟩ : ∃ m, k = m + 2 := ⟨k - 2, by omega⟩
    rw [hearsayref02_Texts.l0, if_neg (by omega), hearsayref02_Texts.j1, if_neg (by simp), rints_f, List.drop_eq_nil_of_le (by omega)]
    simp only [Option.bind_some]
    by_cases hlt : i < b.size
    · rw [List.drop_eq_getElem_cons (show i < b.toList.length by omega)]
      unfold compareInt
      rw [if_pos (by omega)]
      rfl
    · rw [List.drop_eq_nil_of_le (by omega)]
      unfold compareInt
      rw [if_neg (by omega), if_neg (by omega)]
      rfl
  | succ n ih =>
    intro i k hi hib hk
    obtain ⟨k, rfl⟩ : ∃ m, k = m + 2 := ⟨k - 2, by omega⟩
    rw [hearsayref02_Texts.l0, if_pos (by omega), hearsayref02_Texts.j1, List.drop_eq_getElem_cons (show i < a.toList.length by omega)]
    by_cases hlt : i < b.size
    · rw [if_pos (by simp; omega), if_pos (by omega), if_pos (by omega), if_pos (by omega), List.drop_eq_getElem_cons (show i < b.toList.length by omega)]
      obtain ⟨h1, e1⟩ := ba_get (s := a) (i := i) (by omega)
      obtain ⟨h2, e2⟩ := ba_get (s := b) (i := i) hlt
      rw [e1, e2]
      generalize a.toList[i] = x
      generalize b.toList[i] = y
      have hx : x.toNat < 256 := x.toNat_lt
      have hy : y.toNat < 256 := y.toNat_lt
      by_cases hxy : (x.toNat : Int) = (y.toNat : Int)
      · have exy : x = y := UInt8.toNat_inj.1 (by omega)
        rw [if_pos hxy, show wrap64 ((i : Int) + 1) = ((i + 1 : Nat) : Int) by unfold wrap64; omega, ih (i + 1) k (by omega) (by omega) (by omega), exy]
        rw [compareBytes, if_neg (u8_irrefl y), if_neg (u8_irrefl y)]
      · rw [if_neg hxy, rints_f, show wrap64 (x.toNat : Int) = x.toNat by unfold wrap64; omega, show wrap64 (y.toNat : Int) = y.toNat by unfold wrap64; omega]
        simp only [Option.bind_some]
        unfold compareBytes
        by_cases hl : x.toNat < y.toNat
        · have c1 : compareInt (x.toNat : Int) y.toNat = -1 := by unfold compareInt; exact if_pos (by omega)
          rw [c1, if_pos (UInt8.lt_iff_toNat_lt.2 hl)]
        · have c1 : compareInt (x.toNat : Int) y.toNat = 1 := by
            unfold compareInt
            have g1 : ¬ (x.toNat : Int) < y.toNat := by omega
            have g2 : (x.toNat : Int) > y.toNat := by omega
            rw [if_neg g1, if_pos g2]
          have g1 : ¬ x < y := by rw [UInt8.lt_iff_toNat_lt]; omega
          have g2 : y < x := by rw [UInt8.lt_iff_toNat_lt]; omega
          rw [c1, if_neg g1, if_pos g2]
    · rw [if_neg (by simp; omega), rints_f, show List.drop i b.toList = [] from List.drop_eq_nil_of_le (by omega)]
      simp only [Option.bind_some]
      unfold compareInt
      rw [if_neg (by omega), if_pos (by omega)]
      rfl
theorem rcompare_f (a b : Tm) (ha : okT a = true) (hb : okT b = true) (k : Nat) (hk : 2 * a.f2.size + 2 ≤ k) : hearsayref02_Compare.f k a.f0 a.f1 a.f2 b.f0 b.f1 b.f2 = some (cmpT a b) := by
  simp only [okT, Bool.and_eq_true, decide_eq_true_eq] at ha hb
  unfold hearsayref02_Compare.f cmpT orI
  rw [texts_f a.f2 b.f2 ha.2.2 hb.2.2 k hk, rints_f, rints_f]
  have e := fun x y : Int => cmpInt.eq x y
  by_cases h0 : a.f0 = b.f0
  · have z0 := (e a.f0 b.f0).2 h0
    rw [if_pos h0, z0]
    by_cases h1 : a.f1 = b.f1
    · have z1 := (e a.f1 b.f1).2 h1
      rw [if_pos h1, z1]
      simp
    · have z1 : compareInt a.f1 b.f1 ≠ 0 := fun h => h1 ((e _ _).1 h)
      rw [if_neg h1]
      simp [z1]
  · have z0 : compareInt a.f0 b.f0 ≠ 0 := fun h => h0 ((e _ _).1 h)
    rw [if_neg h0]
    simp [z0]
end Go.Proofs.YtnomgmlfagiffaaDoor.T
