/- Ord; PureA; PureB; PureC; PureFirst; PureTermKinds: texts of this claim, laid together. -/
import Derived.Test.YtnomgmlfagiffaaM0Kd
import Derived.Lib.Bytealg
import Derived.Lib.Small
import Derived.Test.YtnomgmlfagiffaaM1Kd
import Derived.Test.YtnomgmlfagiffaaM2Kd
import Derived.Deep.RegionHeld3
import Derived.Deep.DrawnRows
import Derived.Test.YtnomgmlfagiffaaM3Kd
import Derived.Test.YtnomgmlfagiffaaM4Kd
/- Orders: plain lemmas. -/
namespace Go.Proofs.Ytnomgmlfagiffaa.Hs
open Go.Lib

/-- A comparison that is a total order: -1, 0, 1. -/
structure Cmp {α : Type} (c : α → α → Int) : Prop where
  rng : ∀ a b, c a b = -1 ∨ c a b = 0 ∨ c a b = 1
  anti : ∀ a b, c b a = - c a b
  eq : ∀ a b, c a b = 0 ↔ a = b
  trans : ∀ a b d, c a b < 0 → c b d < 0 → c a d < 0

namespace Cmp
variable {α : Type} {c : α → α → Int}
end Cmp

theorem cmpInt : Cmp compareInt where
  rng a b := by unfold compareInt; split <;> (try split) <;> simp
  anti a b := by unfold compareInt; split <;> split <;> (try split) <;> omega
  eq a b := by unfold compareInt; split <;> (try split) <;> constructor <;> intro h <;> omega
  trans a b d := by unfold compareInt; split <;> split <;> (try split) <;> (try split) <;> (try split) <;> omega

theorem u8_irrefl (a : UInt8) : ¬ a < a := by rw [UInt8.lt_iff_toNat_lt]; omega
/-- cmp.Or -/
def orI (x y : Int) : Int := if x ≠ 0 then x else y

/-- slices.CompareFunc -/
def cmpList {α : Type} (c : α → α → Int) : List α → List α → Int
  | [], [] => 0
  | [], _ :: _ => -1
  | _ :: _, [] => 1
  | a :: aa, b :: bs => if c a b ≠ 0 then c a b else cmpList c aa bs

theorem Cmp.list {α : Type} {c : α → α → Int} (h : Cmp c) : Cmp (cmpList c) where
  rng a := by
    induction a with
    | nil => intro b; cases b <;> simp [cmpList]
    | cons x a ih =>
      intro b
      cases b with
      | nil => simp [cmpList]
      | cons y b => unfold cmpList; split; · exact h.rng x y
                    · exact ih b
  anti a := by
    induction a with
    | nil => intro b; cases b <;> simp [cmpList]
    | cons x a ih =>
      intro b
      cases b with
      | nil => simp [cmpList]
      | cons y b =>
        unfold cmpList
        rw [h.anti x y, ih b]
        split <;> split <;> omega
  eq a := by
    induction a with
    | nil => intro b; cases b <;> simp [cmpList]
    | cons x a ih =>
      intro b
      cases b with
      | nil => simp [cmpList]
      | cons y b =>
        unfold cmpList
        by_cases e : c x y = 0
        · rw [if_neg (by simp [e]), ih b, (h.eq x y).1 e]; simp
        · rw [if_pos (by simpa using e)]
          constructor
          · intro e'; exact absurd e' e
          · intro e'; injection e' with e1 _; exact absurd ((h.eq x y).2 e1) e
  trans a := by
    induction a with
    | nil => intro b d; cases b <;> cases d <;> simp [cmpList]
    | cons x a ih =>
      intro b d
      cases b with
      | nil => simp [cmpList]
      | cons y b =>
        cases d with
        | nil => simp [cmpList]
        | cons z d =>
          unfold cmpList
          intro p q
          by_cases h1 : c x y = 0
          · have e1 := (h.eq _ _).1 h1
            rw [if_neg (by simp [h1])] at p
            by_cases h2 : c y z = 0
            · rw [if_neg (by simp [h2])] at q
              rw [e1, if_neg (by simp [h2])]
              exact ih b d p q
            · rw [if_pos (by simpa using h2)] at q
              rw [e1, if_pos (by simpa using h2)]; exact q
          · rw [if_pos (by simpa using h1)] at p
            by_cases h2 : c y z = 0
            · rw [← (h.eq _ _).1 h2, if_pos (by simpa using h1)]; exact p
            · rw [if_pos (by simpa using h2)] at q
              have := h.trans _ _ _ p q
              rw [if_pos (by omega)]; exact this

end Go.Proofs.Ytnomgmlfagiffaa.Hs
/- What the printed functions of package term answer, in closed form. -/
set_option linter.unusedVariables false
set_option linter.unusedSimpArgs false
namespace Go.Proofs.Ytnomgmlfagiffaa.T
open Go.RowKit Go.Lib Go.Proofs.YtnomgmlfagiffaaW.PrintWords Go.Proofs.Ytnomgmlfagiffaa.Hs
def isConst (t : Tm) : Bool := (decide (t.f0 = 1) && (t.f2.toList == ([] : List UInt8))) || (decide (t.f0 = 2) && (decide (t.f1 = 0) && decide ((t.f2.size : Int) ≤ 64)))
theorem const_f (t : Tm) : term_Const.f t.f0 t.f1 t.f2 = some (isConst t) := by
  unfold term_Const.f isConst
  by_cases h : t.f0 = 1
  · simp [h]
  · by_cases h2 : t.f0 = 2
    · by_cases h3 : t.f1 = 0 <;> simp [h2, h3]
    · simp [h, h2]
def isPrin (t : Tm) : Bool := isConst t && (decide (t.f0 = 2) && (t.f2.toList != ([] : List UInt8)))
theorem prin_f (t : Tm) : term_Principal.f t.f0 t.f1 t.f2 = some (isPrin t) := by
  unfold term_Principal.f isPrin
  rw [const_f]
  cases isConst t
  · simp
  · by_cases h : t.f0 = 2 <;> simp [h]
theorem orI_f (a b c : Int) (k : Nat) : cmp_Or_int.f (k + 4) [a, b, c] = some (orI a (orI b c)) := by
  unfold cmp_Or_int.f orI
  by_cases ha : a = 0
  · by_cases hb : b = 0
    · by_cases hc : c = 0
      · simp [cmp_Or_int.l0, rd, wrap64, ha, hb, hc]
      · simp [cmp_Or_int.l0, rd, wrap64, ha, hb, hc]
    · simp [cmp_Or_int.l0, rd, wrap64, ha, hb]
  · simp [cmp_Or_int.l0, rd, wrap64, ha]
def cmpT (a b : Tm) : Int := orI (compareInt a.f0 b.f0) (orI (compareInt a.f1 b.f1) (compareBytes a.f2.toList b.f2.toList))
theorem cmpInt_f (x y : Int) : cmp_Compare_int.f x y = some (compareInt x y) := by
  rw [cmp_f]
  unfold compareInt
  split
  · rfl
  · split
    · rfl
    · rfl
theorem cmpStr_f (x y : ByteArray) : strings_Compare.f x y = some (compareBytes x.toList y.toList) := by
  unfold strings_Compare.f bytealg_CompareString.f
  simp [toList_data]
theorem cmpT_f (a b : Tm) (k : Nat) : term_Compare.f (k + 4) a.f0 a.f1 a.f2 b.f0 b.f1 b.f2 = some (cmpT a b) := by
  unfold term_Compare.f cmpT
  rw [cmpInt_f, cmpInt_f, cmpStr_f]
  simp only [Option.bind_some]
  rw [orI_f]
  rfl
end Go.Proofs.Ytnomgmlfagiffaa.T
/- Look and Become in closed form: the program's and the document's are the same. -/
set_option linter.unusedVariables false
set_option linter.unusedSimpArgs false
namespace Go.Proofs.Ytnomgmlfagiffaa.T
open Go.RowKit Go.Lib Go.Proofs.YtnomgmlfagiffaaW.PrintWords
theorem rvar_f (t : Tm) : hearsayref02_Variable.f t.f0 t.f1 t.f2 = some (isVar t) := by
  unfold hearsayref02_Variable.f isVar
  by_cases h : t.f0 = 3
  · by_cases h2 : 0 ≤ t.f1 <;> simp [h, h2]
  · simp [h]
end Go.Proofs.Ytnomgmlfagiffaa.T
/- Tests and comparisons in closed form: the document's. -/
set_option linter.unusedVariables false
set_option linter.unusedSimpArgs false
namespace Go.Proofs.Ytnomgmlfagiffaa.T
open Go.RowKit Go.Lib Go.Proofs.YtnomgmlfagiffaaW.PrintWords Go.Proofs.Ytnomgmlfagiffaa.Hs
theorem rconst_f (t : Tm) : hearsayref02_Const.f t.f0 t.f1 t.f2 = some (isConst t) := by
  unfold hearsayref02_Const.f isConst
  by_cases h : t.f0 = 1
  · by_cases h1 : t.f2.toList = [] <;> simp [h, h1]
  · by_cases h2 : t.f0 = 2
    · by_cases h3 : t.f1 = 0 <;> simp [h2, h3]
    · simp [h, h2]
theorem rints_f (a b : Int) : hearsayref02_ints.f a b = some (compareInt a b) := by
  unfold hearsayref02_ints.f compareInt
  split
  · rfl
  · split <;> rfl
theorem ba_get {s : ByteArray} {i : Nat} (h : i < s.size) : ∃ h' : i < s.toList.length, bt s (i : Int) = (s.toList[i].toNat : Int) := by
  have e : s.toList = s.data.toList := toList_data s
  have h1 : i < s.toList.length := by rw [e]; simpa using h
  refine ⟨h1, ?_⟩
  unfold bt
  simp only [Int.toNat_natCast]
  rw [dif_pos h]
  congr 2
  simp only [e]
  rfl
theorem ba_len (s : ByteArray) : s.toList.length = s.size := by rw [toList_data]; rfl
theorem texts_f (a b : ByteArray) (ha : a.size ≤ 9223372036854775807) (hb : b.size ≤ 9223372036854775807) : ∀ k, 2 * a.size + 2 ≤ k → hearsayref02_Texts.f k a b = some (compareBytes a.toList b.toList) := by
  intro k hk
  unfold hearsayref02_Texts.f
  suffices h : ∀ (n i k : Nat), a.size = i + n → i ≤ b.size → 2 * n + 2 ≤ k → hearsayref02_Texts.l0 k a b (i : Int) = some (compareBytes (a.toList.drop i) (b.toList.drop i)) from h a.size 0 k (by omega) (by omega) hk
  have la := ba_len a
  have lb := ba_len b
  intro n
  induction n with
  | zero =>
    intro i k hi hib hk
    obtain ⟨k, rfl⟩ : ∃ m, k = m + 2 := ⟨k - 2, by omega⟩
    rw [hearsayref02_Texts.l0, if_neg (by omega), hearsayref02_Texts.j1, if_neg (by simp), rints_f, List.drop_eq_nil_of_le (by omega)]
    simp only [Option.bind_some]
    by_cases hlt : i < b.size
    · rw [List.drop_eq_getElem_cons (show i < b.toList.length by omega)]
      unfold compareInt
      rw [if_pos (by omega)]
      rfl
    · rw [List.drop_eq_nil_of_le (by omega)]
      unfold compareInt
      rw [if_neg (by omega), if_neg (by omega)]
      rfl
  | succ n ih =>
    intro i k hi hib hk
    obtain ⟨k, rfl⟩ : ∃ m, k = m + 2 := ⟨k - 2, by omega⟩
    rw [hearsayref02_Texts.l0, if_pos (by omega), hearsayref02_Texts.j1, List.drop_eq_getElem_cons (show i < a.toList.length by omega)]
    by_cases hlt : i < b.size
    · rw [if_pos (by simp; omega), if_pos (by omega), if_pos (by omega), if_pos (by omega), List.drop_eq_getElem_cons (show i < b.toList.length by omega)]
      obtain ⟨h1, e1⟩ := ba_get (s := a) (i := i) (by omega)
      obtain ⟨h2, e2⟩ := ba_get (s := b) (i := i) hlt
      rw [e1, e2]
      generalize a.toList[i] = x
      generalize b.toList[i] = y
      have hx : x.toNat < 256 := x.toNat_lt
      have hy : y.toNat < 256 := y.toNat_lt
      by_cases hxy : (x.toNat : Int) = (y.toNat : Int)
      · have exy : x = y := UInt8.toNat_inj.1 (by omega)
        rw [if_pos hxy, show wrap64 ((i : Int) + 1) = ((i + 1 : Nat) : Int) by unfold wrap64; omega, ih (i + 1) k (by omega) (by omega) (by omega), exy]
        rw [compareBytes, if_neg (u8_irrefl y), if_neg (u8_irrefl y)]
      · rw [if_neg hxy, rints_f, show wrap64 (x.toNat : Int) = x.toNat by unfold wrap64; omega, show wrap64 (y.toNat : Int) = y.toNat by unfold wrap64; omega]
        simp only [Option.bind_some]
        unfold compareBytes
        by_cases hl : x.toNat < y.toNat
        · have c1 : compareInt (x.toNat : Int) y.toNat = -1 := by unfold compareInt; exact if_pos (by omega)
          rw [c1, if_pos (UInt8.lt_iff_toNat_lt.2 hl)]
        · have c1 : compareInt (x.toNat : Int) y.toNat = 1 := by
            unfold compareInt
            have g1 : ¬ (x.toNat : Int) < y.toNat := by omega
            have g2 : (x.toNat : Int) > y.toNat := by omega
            rw [if_neg g1, if_pos g2]
          have g1 : ¬ x < y := by rw [UInt8.lt_iff_toNat_lt]; omega
          have g2 : y < x := by rw [UInt8.lt_iff_toNat_lt]; omega
          rw [c1, if_neg g1, if_pos g2]
    · rw [if_neg (by simp; omega), rints_f, show List.drop i b.toList = [] from List.drop_eq_nil_of_le (by omega)]
      simp only [Option.bind_some]
      unfold compareInt
      rw [if_neg (by omega), if_pos (by omega)]
      rfl
theorem rcompare_f (a b : Tm) (ha : okT a = true) (hb : okT b = true) (k : Nat) (hk : 2 * a.f2.size + 2 ≤ k) : hearsayref02_Compare.f k a.f0 a.f1 a.f2 b.f0 b.f1 b.f2 = some (cmpT a b) := by
  simp only [okT, Bool.and_eq_true, decide_eq_true_eq] at ha hb
  unfold hearsayref02_Compare.f cmpT orI
  rw [texts_f a.f2 b.f2 ha.2.2 hb.2.2 k hk, rints_f, rints_f]
  have e := fun x y : Int => cmpInt.eq x y
  by_cases h0 : a.f0 = b.f0
  · have z0 := (e a.f0 b.f0).2 h0
    rw [if_pos h0, z0]
    by_cases h1 : a.f1 = b.f1
    · have z1 := (e a.f1 b.f1).2 h1
      rw [if_pos h1, z1]
      simp
    · have z1 : compareInt a.f1 b.f1 ≠ 0 := fun h => h1 ((e _ _).1 h)
      rw [if_neg h1]
      simp [z1]
  · have z0 : compareInt a.f0 b.f0 ≠ 0 := fun h => h0 ((e _ _).1 h)
    rw [if_neg h0]
    simp [z0]
end Go.Proofs.Ytnomgmlfagiffaa.T
/- The laws' first call answers as the document fixes it. -/
namespace Go.Proofs.Ytnomgmlfagiffaa.T
open Go.RowKit Go.Lib Go.Proofs.YtnomgmlfagiffaaW.PrintWords
theorem first_f : hearsaylaw02_first.f = some true := by
  have e0 : (⟨#[]⟩ : ByteArray).toList = [] := by rw [toList_data]
  have e1 : matchL ⟨#[112]⟩ [(⟨3, 0, ⟨#[]⟩⟩ : Tm)] ⟨#[112]⟩ [⟨1, 5, ⟨#[]⟩⟩] [] ⟨0, 0, ⟨#[]⟩⟩ ⟨0, 0, ⟨#[]⟩⟩ = ([⟨0, ⟨1, 5, ⟨#[]⟩⟩⟩], true) := by
    simp [matchL, stepM, isVar, eqT, getM, putM, startM, e0]
  unfold hearsaylaw02_first.f term_Match.f
  rw [e1, if_pos (by decide)]
  simp [rd_T46, e0]
end Go.Proofs.Ytnomgmlfagiffaa.T
/- TermKinds: the plain law. -/
set_option linter.unusedVariables false
namespace Go.Proofs.Ytnomgmlfagiffaa.T
open Go.RowKit Go.Lib Go.Proofs.YtnomgmlfagiffaaW.PrintWords Go.Proofs.Ytnomgmlfagiffaa.Hs
theorem rprin_f' (t : Tm) : hearsayref02_Principal.f t.f0 t.f1 t.f2 = some (isPrin t) := by
  unfold hearsayref02_Principal.f isPrin
  rw [rconst_f]
  cases isConst t
  · simp
  · by_cases h : t.f0 = 2 <;> simp [h]
theorem termKinds (x y : Tm) (ox : okT x = true) (oy : okT y = true) : ∃ k, hearsaylaw02_TermKinds.f k x.f0 x.f1 x.f2 y.f0 y.f1 y.f2 = some true := by
  refine ⟨2 * x.f2.size + 2 * y.f2.size + 9, ?_⟩
  unfold hearsaylaw02_TermKinds.f
  rw [const_f, rconst_f, prin_f, rprin_f', var_f, rvar_f]
  simp only [Option.bind_some, bne_self_eq_false, Bool.false_eq_true, if_false]
  rw [hearsaylaw02_TermKinds.j0, if_neg (by simp), cmpT_f, cmpT_f, rcompare_f x y ox oy _ (by omega), rcompare_f y x oy ox _ (by omega)]
  simp [first_f]
end Go.Proofs.Ytnomgmlfagiffaa.T
