/- What the printed functions of package term answer, in closed form. -/
import Derived.Test.YtnomgmlfagiffaaDoorOrd
import Derived.Test.YtnomgmlfagiffaaDoorT7
import Derived.Test.YtnomgmlfagiffaaDoorGPure
import Derived.Test.YtnomgmlfagiffaaDoorGMatch
set_option linter.unusedVariables false
set_option linter.unusedSimpArgs false
namespace Go.Proofs.YtnomgmlfagiffaaDoor.T
open Go.RowKit Go.Lib Go.Proofs.YtnomgmlfagiffaaDoorW.PrintWords Go.Proofs.YtnomgmlfagiffaaDoor.Hs
def isConst (t : Tm) : Bool := (decide (t.f0 = 1) && (t.f2.toList == ([] : List UInt8))) || (decide (t.f0 = 2) && (decide (t.f1 = 0) && decide ((t.f2.size : Int) ≤ 64)))
theorem const_f (t : Tm) : term_Const.f t.f0 t.f1 t.f2 = some (isConst t) := by
  unfold term_Const.f isConst
  by_cases h : t.f0 = 1
  · simp [h]
  · by_cases h2 : t.f0 = 2
    · by_cases h3 : t.f1 = 0 <;> simp [h2, h3]
    · simp [h, h2]
theorem const_not_var {t : Tm} (h : isConst t = true) : isVar t = false := by
  unfold isConst at h
  unfold isVar
  by_cases h3 : t.f0 = 3
  · simp [h3] at h
  · simp [h3]
def isPrin (t : Tm) : Bool := isConst t && (decide (t.f0 = 2) && (t.f2.toList != ([] : List UInt8)))
theorem prin_f (t : Tm) : term_Principal.f t.f0 t.f1 t.f2 = some (isPrin t) := by
  unfold term_Principal.f isPrin
  rw [const_f]
  cases isConst t
  · simp
  · by_cases h : t.f0 = 2 <;> simp [h]
theorem orI_f (a b c : Int) (k : Nat) : cmp_Or_int.f (k + 4) [a, b, c] = some (orI a (orI b c)) := by
  unfold cmp_Or_int.f orI
  by_cases ha : a = 0
  · by_cases hb : b = 0
    · by_cases hc : c = 0
      · simp [cmp_Or_int.l0, rd, wrap64, ha, hb, hc]
      · simp [cmp_Or_int.l0, rd, wrap64, ha, hb, hc]
    · simp [cmp_Or_int.l0, rd, wrap64, ha, hb]
  · simp [cmp_Or_int.l0, rd, wrap64, ha]
def cmpT (a b : Tm) : Int := orI (compareInt a.f0 b.f0) (orI (compareInt a.f1 b.f1) (compareBytes a.f2.toList b.f2.toList))
theorem cmpInt_f (x y : Int) : cmp_Compare_int.f x y = some (compareInt x y) := by
  rw [cmp_f]
  unfold compareInt
  split
  · rfl
  · split
    · rfl
    · rfl
theorem cmpStr_f (x y : ByteArray) : strings_Compare.f x y = some (compareBytes x.toList y.toList) := by
  unfold strings_Compare.f bytealg_CompareString.f
  simp [toList_data]
theorem cmpT_f (a b : Tm) (k : Nat) : term_Compare.f (k + 4) a.f0 a.f1 a.f2 b.f0 b.f1 b.f2 = some (cmpT a b) := by
  unfold term_Compare.f cmpT
  rw [cmpInt_f, cmpInt_f, cmpStr_f]
  simp only [Option.bind_some]
  rw [orI_f]
  rfl
theorem ba_ext {a b : ByteArray} (h : a.toList = b.toList) : a = b := by
  rw [toList_data, toList_data] at h
  exact WideShapes.bytes_inj h
theorem cmpTm : Cmp cmpT := by
  have h := Cmp.of_inj (Cmp.lex cmpInt (Cmp.lex cmpInt cmpBytes)) (fun t : Tm => (t.f0, t.f1, t.f2.toList)) (fun a b e => by
    simp only [Prod.mk.injEq] at e
    obtain ⟨h0, h1, h2⟩ := e
    cases a; cases b
    simp only at h0 h1 h2
    subst h0 h1
    rw [ba_ext h2])
  exact h
theorem eqT_iff (a b : Tm) : eqT a b = true ↔ a = b := by
  unfold eqT
  simp only [Bool.and_eq_true, beq_iff_eq]
  constructor
  · rintro ⟨h0, h1, h2⟩
    cases a; cases b
    simp only at h0 h1 h2
    subst h0 h1
    rw [ba_ext h2]
  · rintro rfl
    exact ⟨rfl, rfl, rfl⟩
def okTest (op : Int) (l r : Tm) : Bool := decide (1 ≤ op) && (decide (op ≤ 4) && ((isConst l || isVar l) && (isConst r || isVar r)))
theorem checkTest_f (op : Int) (l r : Tm) : term_CheckTest.f op l.f0 l.f1 l.f2 r.f0 r.f1 r.f2 = some (if okTest op l r then 0 else 32) := by
  unfold term_CheckTest.f okTest
  rw [const_f, const_f, var_f, var_f]
  by_cases h1 : op < 1
  · rw [if_pos h1, if_neg (by simp; omega)]
  · rw [if_neg h1]
    by_cases h4 : op > 4
    · rw [if_pos h4, if_neg (by simp; omega)]
    · rw [if_neg h4]
      have e1 : 1 ≤ op := by omega
      have e4 : op ≤ 4 := by omega
      cases isConst l <;> cases isConst r <;> cases isVar l <;> cases isVar r <;> simp [e1, e4]
def decideT (op : Int) (l r : Tm) : Bool × Bool :=
  if okTest op l r && (isConst l && isConst r) then
    (if op = 1 then cmpT l r == 0 else if op = 2 then cmpT l r != 0 else if op = 3 then decide (cmpT l r < 0) else decide (cmpT l r ≤ 0), true)
  else (false, false)
theorem decide_f (op : Int) (l r : Tm) (k : Nat) : term_Decide.f (k + 5) op l.f0 l.f1 l.f2 r.f0 r.f1 r.f2 = some (decideT op l r) := by
  unfold term_Decide.f decideT
  rw [checkTest_f]
  cases h : okTest op l r with
  | false => simp [term_Decide.j0]
  | true =>
    simp only [Option.bind_some, if_true, const_f]
    cases isConst l with
    | false => simp [term_Decide.j0]
    | true =>
      cases isConst r with
      | false => simp [term_Decide.j0]
      | true =>
        simp only [Option.bind_some, if_true, Bool.not_true, term_Decide.j0, Bool.false_eq_true, if_false, cmpT_f, Bool.and_self]
        by_cases h1 : op = 1
        · simp [h1]
        · by_cases h2 : op = 2
          · simp [h2]
          · by_cases h3 : op = 3
            · simp [h3]
            · simp [h1, h2, h3]
end Go.Proofs.YtnomgmlfagiffaaDoor.T
