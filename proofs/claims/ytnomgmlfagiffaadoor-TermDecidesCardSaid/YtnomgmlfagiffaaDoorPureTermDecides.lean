/- TermDecides: the plain law. -/
import Derived.Test.YtnomgmlfagiffaaDoorT25
import Derived.Test.YtnomgmlfagiffaaDoorPureA
set_option linter.unusedVariables false
namespace Go.Proofs.YtnomgmlfagiffaaDoor.T
open Go.RowKit Go.Lib Go.Proofs.YtnomgmlfagiffaaDoorW.PrintWords Go.Proofs.YtnomgmlfagiffaaDoor.Hs
theorem first_f : hearsaylaw02_first.f = some true := by
  have e0 : (⟨#[]⟩ : ByteArray).toList = [] := by rw [toList_data]
  have e1 : matchL ⟨#[112]⟩ [(⟨3, 0, ⟨#[]⟩⟩ : Tm)] ⟨#[112]⟩ [⟨1, 5, ⟨#[]⟩⟩] [] ⟨0, 0, ⟨#[]⟩⟩ ⟨0, 0, ⟨#[]⟩⟩ = ([⟨0, ⟨1, 5, ⟨#[]⟩⟩⟩], true) := by
    simp [matchL, stepM, isVar, eqT, getM, putM, startM, e0]
  unfold hearsaylaw02_first.f term_Match.f
  rw [e1, if_pos (by decide)]
  simp [rd_T44, e0]
theorem look_one (v : Int) (t : Tm) (w : Int) (k : Nat) : term_Look.f (k + 2) [(⟨v, t⟩ : Bd)] w = some (if v = w then (t.f0, t.f1, t.f2, true) else (0, 0, ⟨#[]⟩, false)) := by
  unfold term_Look.f
  by_cases h : v = w
  · simp [term_Look.l0, rd_T44, h]
  · simp [term_Look.l0, rd_T44, h, wrap64]
end Go.Proofs.YtnomgmlfagiffaaDoor.T
namespace Go.Proofs.YtnomgmlfagiffaaDoor.T.Pure
open Go.RowKit Go.Lib Go.Proofs.YtnomgmlfagiffaaDoorW.PrintWords Go.Proofs.YtnomgmlfagiffaaDoor.Hs
theorem termDecides (x y : Tm) (ox : okT x = true) (oy : okT y = true) : ∃ k, hearsaylaw02_TermDecides.f k x.f0 x.f1 x.f2 y.f0 y.f1 y.f2 = some true := by
  refine ⟨20, ?_⟩
  unfold hearsaylaw02_TermDecides.f
  rw [const_f, const_f]
  cases hx : isConst x with
  | false =>
    simp only [Option.bind_some, Bool.false_eq_true, if_false]
    rw [hearsaylaw02_TermDecides.j0]
    simp only [if_true]
    rw [decide_f 4 x y 14]
    simp [decideT, hx, first_f]
  | true =>
    simp only [Option.bind_some, if_true]
    cases hy : isConst y with
    | false =>
      rw [hearsaylaw02_TermDecides.j0]
      simp only [Bool.not_false, if_true]
      rw [decide_f 4 x y 14]
      simp [decideT, hx, hy, first_f]
    | true =>
      rw [hearsaylaw02_TermDecides.j0]
      simp only [Bool.not_true, Bool.false_eq_true, if_false]
      rw [decide_f 3 x y 14, decide_f 1 x y 14, decide_f 3 y x 14, decide_f 4 x y 14, decide_f 2 x y 14]
      have hv : isVar y = false := const_not_var hy
      have hok : ∀ op : Int, 1 ≤ op → op ≤ 4 → okTest op x y = true := fun op h1 h2 => by simp [okTest, hx, hy, h1, h2]
      have hok2 : ∀ op : Int, 1 ≤ op → op ≤ 4 → okTest op y x = true := fun op h1 h2 => by simp [okTest, hx, hy, h1, h2]
      have e1 : decideT 1 x y = (cmpT x y == 0, true) := by simp [decideT, hok, hx, hy]
      have e2 : decideT 2 x y = (cmpT x y != 0, true) := by simp [decideT, hok, hx, hy]
      have e3 : decideT 3 x y = (decide (cmpT x y < 0), true) := by simp [decideT, hok, hx, hy]
      have e4 : decideT 4 x y = (decide (cmpT x y ≤ 0), true) := by simp [decideT, hok, hx, hy]
      have e5 : decideT 3 y x = (decide (cmpT x y > 0), true) := by
        simp only [decideT, hok2 3 (by omega) (by omega), hx, hy]
        rw [cmpTm.anti x y]
        simp
      simp only [Option.bind_some, e1, e2, e3, e4, e5]
      have heq : (x.f0 == y.f0 && (x.f1 == y.f1 && (x.f2.toList == y.f2.toList))) = (cmpT x y == 0) := by
        have h1 := eqT_iff x y
        have h2 := cmpTm.eq x y
        show eqT x y = _
        rw [Bool.eq_iff_iff, h1, ← h2]
        simp
      have hbe : ∀ k : Nat, term_become.f (k + 2) [(⟨4, x⟩ : Bd)] 3 4 ⟨#[]⟩ = some (x.f0, x.f1, x.f2) := fun k => by
        unfold term_become.f
        have := var_f ⟨3, 4, ⟨#[]⟩⟩
        simp only at this
        rw [this, look_one]
        simp [isVar]
      have hby : ∀ k : Nat, term_become.f (k + 2) [(⟨4, x⟩ : Bd)] y.f0 y.f1 y.f2 = some (y.f0, y.f1, y.f2) := fun k => by
        unfold term_become.f
        rw [var_f, hv]
        simp
      have hat : ∀ k : Nat, term_ApplyTest.f (k + 2) [(⟨4, x⟩ : Bd)] 4 3 4 ⟨#[]⟩ y.f0 y.f1 y.f2 = some (4, x.f0, x.f1, x.f2, y.f0, y.f1, y.f2) := fun k => by
        unfold term_ApplyTest.f
        rw [hbe, hby]
        rfl
      have hd : decideT 4 ⟨3, 4, ⟨#[]⟩⟩ y = (false, false) := by simp [decideT, isConst]
      have hd4 := fun k => decide_f 4 ⟨3, 4, ⟨#[]⟩⟩ y k
      simp only [hd] at hd4
      have hdx := fun k => decide_f 4 x y k
      rw [e4] at hdx
      generalize cmpT x y = c at *
      have hc : c < 0 ∨ c = 0 ∨ c > 0 := by omega
      rcases hc with h | h | h
      · have f1 : (c == 0) = false := by simp; omega
        have f2 : (c != 0) = true := by simp; omega
        have f3 : decide (c < 0) = true := by simpa using h
        have f4 : decide (c ≤ 0) = true := by simp; omega
        have f5 : decide (c > 0) = false := by simp; omega
        simp only [f1, f2, f3, f4, f5] at *
        simp [hearsaylaw02_TermDecides.j1, hearsaylaw02_TermDecides.j2, hearsaylaw02_TermDecides.j3, hearsaylaw02_TermDecides.j4, heq, hd4, hat, hdx]
      · have f1 : (c == 0) = true := by simp; omega
        have f2 : (c != 0) = false := by simp; omega
        have f3 : decide (c < 0) = false := by simp; omega
        have f4 : decide (c ≤ 0) = true := by simp; omega
        have f5 : decide (c > 0) = false := by simp; omega
        simp only [f1, f2, f3, f4, f5] at *
        simp [hearsaylaw02_TermDecides.j1, hearsaylaw02_TermDecides.j2, hearsaylaw02_TermDecides.j3, hearsaylaw02_TermDecides.j4, heq, hd4, hat, hdx, wrap64]
      · have f1 : (c == 0) = false := by simp; omega
        have f2 : (c != 0) = true := by simp; omega
        have f3 : decide (c < 0) = false := by simp; omega
        have f4 : decide (c ≤ 0) = false := by simp; omega
        have f5 : decide (c > 0) = true := by simp; omega
        simp only [f1, f2, f3, f4, f5] at *
        simp [hearsaylaw02_TermDecides.j1, hearsaylaw02_TermDecides.j2, hearsaylaw02_TermDecides.j3, hearsaylaw02_TermDecides.j4, heq, hd4, hat, hdx, wrap64]
end Go.Proofs.YtnomgmlfagiffaaDoor.T.Pure
