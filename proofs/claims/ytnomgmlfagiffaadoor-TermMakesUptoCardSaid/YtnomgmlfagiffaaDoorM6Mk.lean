/- TMk0: texts of this claim, laid together. -/
import Derived.Test.YtnomgmlfagiffaaDoorM0Mk
import Derived.Test.YtnomgmlfagiffaaDoorM4Mk
import Derived.Test.YtnomgmlfagiffaaDoorM1Mk
import Derived.Test.YtnomgmlfagiffaaDoorM5Mk
import Derived.Test.YtnomgmlfagiffaaDoorM2Mk
import Derived.Test.YtnomgmlfagiffaaDoorM3Mk
/- By a program of this session (wip/tools/squeeze.py), out of the translation: hearsaylaw02_TermMakes. -/
namespace Go.Proofs.YtnomgmlfagiffaaDoor.T
open Go.RowKit Go.Proofs.YtnomgmlfagiffaaDoorW.PrintWords Go.Proofs.YtnomgmlfagiffaaDoorW.PrintLast Go.Proofs.YtnomgmlfagiffaaDoorW.PrintMore
attribute [local go_sem] max2_int min2_int max_two min_two max_three min_three max_four min_four   -- for this text's walks alone
set_option linter.unusedVariables false
set_option linter.unusedSimpArgs false

attribute [local go_sem high] eqA23
mutual
def hearsaylaw02_TermMakes.j0 : Nat → List (S44) → List (S44) → Bool → Bool → Int → Int → ByteArray → ByteArray → List (S23) → Option (Bool)
  | 0, _, _, _, _, _, _, _, _, _ => none
  | k + 1, x2, x7, x8, x39, x161000, x161001, x161002, x161003, x161004 => if x39 = true then (some false) else (hearsaylaw02_TermMakes.l0 k x2 x7 x8 0 x161000 x161001 x161002 x161003 x161004)
def hearsaylaw02_TermMakes.l0 : Nat → List (S44) → List (S44) → Bool → Int → Int → Int → ByteArray → ByteArray → List (S23) → Option (Bool)
  | 0, _, _, _, _, _, _, _, _, _ => none
  | k + 1, x2, x7, x8, x9, x161000, x161001, x161002, x161003, x161004 => if x8 = true then (hearsaylaw02_TermMakes.j2 k x2 x7 x8 x9 (decide (x9 < (x2.length : Int))) x161000 x161001 x161002 x161003 x161004) else (hearsaylaw02_TermMakes.j2 k x2 x7 x8 x9 false x161000 x161001 x161002 x161003 x161004)
def hearsaylaw02_TermMakes.j2 : Nat → List (S44) → List (S44) → Bool → Int → Bool → Int → Int → ByteArray → ByteArray → List (S23) → Option (Bool)
  | 0, _, _, _, _, _, _, _, _, _, _ => none
  | k + 1, x2, x7, x8, x9, x46, x161000, x161001, x161002, x161003, x161004 => if x46 = true then (if 0 ≤ x9 then (if x9 < (x2.length : Int) then ((hearsaylaw02_says.f k x7 ((rd_T44 x2 x9).f0)).bind fun bt176 => ((hearsaylaw02_says.f k x2 ((rd_T44 x2 x9).f0)).bind fun bt180 => (if (!(bt176.1 == bt180.1) || (!(bt176.2.1 == bt180.2.1) || (!(bt176.2.2.toList == bt180.2.2.toList)))) = true then (some false) else (hearsaylaw02_TermMakes.l0 k x2 x7 x8 (wrap64 (x9 + 1)) x161000 x161001 x161002 x161003 x161004)))) else (none)) else (none)) else (if x8 = true then (hearsaylaw02_TermMakes.j3 k x2 false x161000 x161001 x161002 x161003 x161004) else (hearsaylaw02_TermMakes.j3 k x2 ((x7.length : Int) != 0) x161000 x161001 x161002 x161003 x161004))
def hearsaylaw02_TermMakes.j3 : Nat → List (S44) → Bool → Int → Int → ByteArray → ByteArray → List (S23) → Option (Bool)
  | 0, _, _, _, _, _, _, _ => none
  | k + 1, x2, x70, x161000, x161001, x161002, x161003, x161004 => if x70 = true then (some false) else ((term_Apply.f k x2 x161000 x161001 x161002 x161003 x161004).bind fun bt183 => ((term_Variable.f x161000 x161001 x161002).bind fun t191 => (if t191 = true then (hearsaylaw02_TermMakes.j4 k x2 (bt183.1 == 0) x161000 x161001 x161002 x161003 x161004 bt183.1 bt183.2.1 bt183.2.2.1 bt183.2.2.2.1 bt183.2.2.2.2) else (hearsaylaw02_TermMakes.j4 k x2 false x161000 x161001 x161002 x161003 x161004 bt183.1 bt183.2.1 bt183.2.2.1 bt183.2.2.2.1 bt183.2.2.2.2))))
def hearsaylaw02_TermMakes.j4 : Nat → List (S44) → Bool → Int → Int → ByteArray → ByteArray → List (S23) → Int → Int → ByteArray → ByteArray → List (S23) → Option (Bool)
  | 0, _, _, _, _, _, _, _, _, _, _, _, _ => none
  | k + 1, x2, x82, x161000, x161001, x161002, x161003, x161004, x191000, x191001, x191002, x191003, x191004 => if x82 = true then ((term_Match.f x161000 x161001 x161002 x161003 x161004 x191000 x191001 x191002 x191003 x191004 ([] : List (S44))).bind fun bt192 => (if bt192.2 = true then (some false) else ((hearsaylaw02_first.f).bind fun t196 => (some t196)))) else ((term_Match.f x161000 x161001 x161002 x161003 x161004 x191000 x191001 x191002 x191003 x191004 ([] : List (S44))).bind fun bt197 => ((term_Match.f x161000 x161001 x161002 x161003 x161004 x191000 x191001 x191002 x191003 x191004 x2).bind fun bt201 => ((term_Vars.f x161000 x161001 x161002 x161003 x161004).bind fun t205 => (if bt197.2 = true then (if bt201.2 = true then (hearsaylaw02_TermMakes.j5 k x2 bt197.1 bt201.1 t205 ((bt197.1.length : Int) != (t205.length : Int))) else (hearsaylaw02_TermMakes.j5 k x2 bt197.1 bt201.1 t205 true)) else (hearsaylaw02_TermMakes.j5 k x2 bt197.1 bt201.1 t205 true)))))
def hearsaylaw02_TermMakes.j5 : Nat → List (S44) → List (S44) → List (S44) → List Int → Bool → Option (Bool)
  | 0, _, _, _, _, _ => none
  | k + 1, x2, x13, x15, x17, x121 => if x121 = true then (some false) else (hearsaylaw02_TermMakes.l1 k x2 x13 x15 x17 0)
def hearsaylaw02_TermMakes.l1 : Nat → List (S44) → List (S44) → List (S44) → List Int → Int → Option (Bool)
  | 0, _, _, _, _, _ => none
  | k + 1, x2, x13, x15, x17, x18 => if x18 < (x17.length : Int) then (if 0 ≤ x18 then ((hearsaylaw02_says.f k x13 (rd x17 x18)).bind fun bt209 => ((hearsaylaw02_says.f k x2 (rd x17 x18)).bind fun bt213 => (if (!(bt209.1 == bt213.1) || (!(bt209.2.1 == bt213.2.1) || (!(bt209.2.2.toList == bt213.2.2.toList)))) = true then (hearsaylaw02_TermMakes.j7 k x2 x13 x15 x17 x18 true) else ((hearsaylaw02_says.f k x15 (rd x17 x18)).bind fun bt217 => ((hearsaylaw02_says.f k x2 (rd x17 x18)).bind fun bt221 => (hearsaylaw02_TermMakes.j7 k x2 x13 x15 x17 x18 (!(bt217.1 == bt221.1) || (!(bt217.2.1 == bt221.2.1) || (!(bt217.2.2.toList == bt221.2.2.toList)))))))))) else (none)) else ((hearsaylaw02_first.f).bind fun t224 => (some t224))
def hearsaylaw02_TermMakes.j7 : Nat → List (S44) → List (S44) → List (S44) → List Int → Int → Bool → Option (Bool)
  | 0, _, _, _, _, _, _ => none
  | k + 1, x2, x13, x15, x17, x18, x155 => if x155 = true then (some false) else (hearsaylaw02_TermMakes.l1 k x2 x13 x15 x17 (wrap64 (x18 + 1)))
end
def hearsaylaw02_TermMakes.f (k : Nat) (a0_0 : Int) (a0_1 : Int) (a0_2 : ByteArray) (a0_3 : ByteArray) (l0_4 : List (S23)) (a1_0 : Int) (a1_1 : Int) (a1_2 : ByteArray) (a1_3 : ByteArray) (l1_4 : List (S23)) (l2 : List (S44)) : Option (Bool) := (term_Match.f a0_0 a0_1 a0_2 a0_3 l0_4 a1_0 a1_1 a1_2 a1_3 l1_4 l2).bind fun bt162 => (if bt162.2 = true then ((hearsaylaw02_rising.f k bt162.1).bind fun t166 => (if t166 = true then ((term_Apply.f k bt162.1 a0_0 a0_1 a0_2 a0_3 l0_4).bind fun bt167 => ((hearsaylaw02_same.f k bt167.1 bt167.2.1 bt167.2.2.1 bt167.2.2.2.1 bt167.2.2.2.2 a1_0 a1_1 a1_2 a1_3 l1_4).bind fun t174 => (hearsaylaw02_TermMakes.j0 k l2 bt162.1 bt162.2 (!t174) a0_0 a0_1 a0_2 a0_3 l0_4))) else (hearsaylaw02_TermMakes.j0 k l2 bt162.1 bt162.2 true a0_0 a0_1 a0_2 a0_3 l0_4))) else (hearsaylaw02_TermMakes.j0 k l2 bt162.1 bt162.2 false a0_0 a0_1 a0_2 a0_3 l0_4))
theorem hearsaylaw02_TermMakes.mono_l : ∀ k, (∀ y0 y1 y2 y3 y4 y5 y6 y7 y8, LeO (hearsaylaw02_TermMakes.j0 k y0 y1 y2 y3 y4 y5 y6 y7 y8) (hearsaylaw02_TermMakes.j0 (k + 1) y0 y1 y2 y3 y4 y5 y6 y7 y8)) ∧ (∀ y0 y1 y2 y3 y4 y5 y6 y7 y8, LeO (hearsaylaw02_TermMakes.l0 k y0 y1 y2 y3 y4 y5 y6 y7 y8) (hearsaylaw02_TermMakes.l0 (k + 1) y0 y1 y2 y3 y4 y5 y6 y7 y8)) ∧ (∀ y0 y1 y2 y3 y4 y5 y6 y7 y8 y9, LeO (hearsaylaw02_TermMakes.j2 k y0 y1 y2 y3 y4 y5 y6 y7 y8 y9) (hearsaylaw02_TermMakes.j2 (k + 1) y0 y1 y2 y3 y4 y5 y6 y7 y8 y9)) ∧ (∀ y0 y1 y2 y3 y4 y5 y6, LeO (hearsaylaw02_TermMakes.j3 k y0 y1 y2 y3 y4 y5 y6) (hearsaylaw02_TermMakes.j3 (k + 1) y0 y1 y2 y3 y4 y5 y6)) ∧ (∀ y0 y1 y2 y3 y4 y5 y6 y7 y8 y9 y10 y11, LeO (hearsaylaw02_TermMakes.j4 k y0 y1 y2 y3 y4 y5 y6 y7 y8 y9 y10 y11) (hearsaylaw02_TermMakes.j4 (k + 1) y0 y1 y2 y3 y4 y5 y6 y7 y8 y9 y10 y11)) ∧ (∀ y0 y1 y2 y3 y4, LeO (hearsaylaw02_TermMakes.j5 k y0 y1 y2 y3 y4) (hearsaylaw02_TermMakes.j5 (k + 1) y0 y1 y2 y3 y4)) ∧ (∀ y0 y1 y2 y3 y4, LeO (hearsaylaw02_TermMakes.l1 k y0 y1 y2 y3 y4) (hearsaylaw02_TermMakes.l1 (k + 1) y0 y1 y2 y3 y4)) ∧ (∀ y0 y1 y2 y3 y4 y5, LeO (hearsaylaw02_TermMakes.j7 k y0 y1 y2 y3 y4 y5) (hearsaylaw02_TermMakes.j7 (k + 1) y0 y1 y2 y3 y4 y5))
  | 0 => ⟨fun _ _ _ _ _ _ _ _ _ r h => by simp [hearsaylaw02_TermMakes.j0] at h, fun _ _ _ _ _ _ _ _ _ r h => by simp [hearsaylaw02_TermMakes.l0] at h, fun _ _ _ _ _ _ _ _ _ _ r h => by simp [hearsaylaw02_TermMakes.j2] at h, fun _ _ _ _ _ _ _ r h => by simp [hearsaylaw02_TermMakes.j3] at h, fun _ _ _ _ _ _ _ _ _ _ _ _ r h => by simp [hearsaylaw02_TermMakes.j4] at h, fun _ _ _ _ _ r h => by simp [hearsaylaw02_TermMakes.j5] at h, fun _ _ _ _ _ r h => by simp [hearsaylaw02_TermMakes.l1] at h, fun _ _ _ _ _ _ r h => by simp [hearsaylaw02_TermMakes.j7] at h⟩
  | k + 1 => by
    obtain ⟨ih0, ih1, ih2, ih3, ih4, ih5, ih6, ih7⟩ := hearsaylaw02_TermMakes.mono_l k
    refine ⟨?_, ?_, ?_, ?_, ?_, ?_, ?_, ?_⟩
    · intro y0 y1 y2 y3 y4 y5 y6 y7 y8
      unfold hearsaylaw02_TermMakes.j0
      repeat' first
      | (with_reducible exact ih0 _ _ _ _ _ _ _ _ _)
      | (with_reducible exact ih1 _ _ _ _ _ _ _ _ _)
      | (with_reducible exact ih2 _ _ _ _ _ _ _ _ _ _)
      | (with_reducible exact ih3 _ _ _ _ _ _ _)
      | (with_reducible exact ih4 _ _ _ _ _ _ _ _ _ _ _ _)
      | (with_reducible exact ih5 _ _ _ _ _)
      | (with_reducible exact ih6 _ _ _ _ _)
      | (with_reducible exact ih7 _ _ _ _ _ _)
      | (with_reducible exact hearsaylaw02_rising.mono _ _)
      | (with_reducible exact hearsaylaw02_same.mono _ _ _ _ _ _ _ _ _ _ _)
      | (with_reducible exact hearsaylaw02_says.mono _ _ _)
      | (with_reducible exact term_Apply.mono _ _ _ _ _ _ _)
      | (with_reducible exact LeO.refl _)
      | (with_reducible exact LeO.none _)
      | (with_reducible refine LeO.ite ?_ ?_)
      | (with_reducible refine LeO.bind ?_ (fun _ => ?_))
      | exact ih0 _ _ _ _ _ _ _ _ _
      | exact ih1 _ _ _ _ _ _ _ _ _
      | exact ih2 _ _ _ _ _ _ _ _ _ _
      | exact ih3 _ _ _ _ _ _ _
      | exact ih4 _ _ _ _ _ _ _ _ _ _ _ _
      | exact ih5 _ _ _ _ _
      | exact ih6 _ _ _ _ _
      | exact ih7 _ _ _ _ _ _
      | exact hearsaylaw02_rising.mono _ _
      | exact hearsaylaw02_same.mono _ _ _ _ _ _ _ _ _ _ _
      | exact hearsaylaw02_says.mono _ _ _
      | exact term_Apply.mono _ _ _ _ _ _ _
      | exact LeO.none _
      | refine LeO.ite ?_ ?_
      | refine LeO.bind ?_ (fun _ => ?_)
    · intro y0 y1 y2 y3 y4 y5 y6 y7 y8
      unfold hearsaylaw02_TermMakes.l0
      repeat' first
      | (with_reducible exact ih0 _ _ _ _ _ _ _ _ _)
      | (with_reducible exact ih1 _ _ _ _ _ _ _ _ _)
      | (with_reducible exact ih2 _ _ _ _ _ _ _ _ _ _)
      | (with_reducible exact ih3 _ _ _ _ _ _ _)
      | (with_reducible exact ih4 _ _ _ _ _ _ _ _ _ _ _ _)
      | (with_reducible exact ih5 _ _ _ _ _)
      | (with_reducible exact ih6 _ _ _ _ _)
      | (with_reducible exact ih7 _ _ _ _ _ _)
      | (with_reducible exact hearsaylaw02_rising.mono _ _)
      | (with_reducible exact hearsaylaw02_same.mono _ _ _ _ _ _ _ _ _ _ _)
      | (with_reducible exact hearsaylaw02_says.mono _ _ _)
      | (with_reducible exact term_Apply.mono _ _ _ _ _ _ _)
      | (with_reducible exact LeO.refl _)
      | (with_reducible exact LeO.none _)
      | (with_reducible refine LeO.ite ?_ ?_)
      | (with_reducible refine LeO.bind ?_ (fun _ => ?_))
      | exact ih0 _ _ _ _ _ _ _ _ _
      | exact ih1 _ _ _ _ _ _ _ _ _
      | exact ih2 _ _ _ _ _ _ _ _ _ _
      | exact ih3 _ _ _ _ _ _ _
      | exact ih4 _ _ _ _ _ _ _ _ _ _ _ _
      | exact ih5 _ _ _ _ _
      | exact ih6 _ _ _ _ _
      | exact ih7 _ _ _ _ _ _
      | exact hearsaylaw02_rising.mono _ _
      | exact hearsaylaw02_same.mono _ _ _ _ _ _ _ _ _ _ _
      | exact hearsaylaw02_says.mono _ _ _
      | exact term_Apply.mono _ _ _ _ _ _ _
      | exact LeO.none _
      | refine LeO.ite ?_ ?_
      | refine LeO.bind ?_ (fun _ => ?_)
    · intro y0 y1 y2 y3 y4 y5 y6 y7 y8 y9
      unfold hearsaylaw02_TermMakes.j2
      repeat' first
      | (with_reducible exact ih0 _ _ _ _ _ _ _ _ _)
      | (with_reducible exact ih1 _ _ _ _ _ _ _ _ _)
      | (with_reducible exact ih2 _ _ _ _ _ _ _ _ _ _)
      | (with_reducible exact ih3 _ _ _ _ _ _ _)
      | (with_reducible exact ih4 _ _ _ _ _ _ _ _ _ _ _ _)
      | (with_reducible exact ih5 _ _ _ _ _)
      | (with_reducible exact ih6 _ _ _ _ _)
      | (with_reducible exact ih7 _ _ _ _ _ _)
      | (with_reducible exact hearsaylaw02_rising.mono _ _)
      | (with_reducible exact hearsaylaw02_same.mono _ _ _ _ _ _ _ _ _ _ _)
      | (with_reducible exact hearsaylaw02_says.mono _ _ _)
      | (with_reducible exact term_Apply.mono _ _ _ _ _ _ _)
      | (with_reducible exact LeO.refl _)
      | (with_reducible exact LeO.none _)
      | (with_reducible refine LeO.ite ?_ ?_)
      | (with_reducible refine LeO.bind ?_ (fun _ => ?_))
      | exact ih0 _ _ _ _ _ _ _ _ _
      | exact ih1 _ _ _ _ _ _ _ _ _
      | exact ih2 _ _ _ _ _ _ _ _ _ _
      | exact ih3 _ _ _ _ _ _ _
      | exact ih4 _ _ _ _ _ _ _ _ _ _ _ _
      | exact ih5 _ _ _ _ _
      | exact ih6 _ _ _ _ _
      | exact ih7 _ _ _ _ _ _
      | exact hearsaylaw02_rising.mono _ _
      | exact hearsaylaw02_same.mono _ _ _ _ _ _ _ _ _ _ _
      | exact hearsaylaw02_says.mono _ _ _
      | exact term_Apply.mono _ _ _ _ _ _ _
      | exact LeO.none _
      | refine LeO.ite ?_ ?_
      | refine LeO.bind ?_ (fun _ => ?_)
    · intro y0 y1 y2 y3 y4 y5 y6
      unfold hearsaylaw02_TermMakes.j3
      repeat' first
      | (with_reducible exact ih0 _ _ _ _ _ _ _ _ _)
      | (with_reducible exact ih1 _ _ _ _ _ _ _ _ _)
      | (with_reducible exact ih2 _ _ _ _ _ _ _ _ _ _)
      | (with_reducible exact ih3 _ _ _ _ _ _ _)
      | (with_reducible exact ih4 _ _ _ _ _ _ _ _ _ _ _ _)
      | (with_reducible exact ih5 _ _ _ _ _)
      | (with_reducible exact ih6 _ _ _ _ _)
      | (with_reducible exact ih7 _ _ _ _ _ _)
      | (with_reducible exact hearsaylaw02_rising.mono _ _)
      | (with_reducible exact hearsaylaw02_same.mono _ _ _ _ _ _ _ _ _ _ _)
      | (with_reducible exact hearsaylaw02_says.mono _ _ _)
      | (with_reducible exact term_Apply.mono _ _ _ _ _ _ _)
      | (with_reducible exact LeO.refl _)
      | (with_reducible exact LeO.none _)
      | (with_reducible refine LeO.ite ?_ ?_)
      | (with_reducible refine LeO.bind ?_ (fun _ => ?_))
      | exact ih0 _ _ _ _ _ _ _ _ _
      | exact ih1 _ _ _ _ _ _ _ _ _
      | exact ih2 _ _ _ _ _ _ _ _ _ _
      | exact ih3 _ _ _ _ _ _ _
      | exact ih4 _ _ _ _ _ _ _ _ _ _ _ _
      | exact ih5 _ _ _ _ _
      | exact ih6 _ _ _ _ _
      | exact ih7 _ _ _ _ _ _
      | exact hearsaylaw02_rising.mono _ _
      | exact hearsaylaw02_same.mono _ _ _ _ _ _ _ _ _ _ _
      | exact hearsaylaw02_says.mono _ _ _
      | exact term_Apply.mono _ _ _ _ _ _ _
      | exact LeO.none _
      | refine LeO.ite ?_ ?_
      | refine LeO.bind ?_ (fun _ => ?_)
    · intro y0 y1 y2 y3 y4 y5 y6 y7 y8 y9 y10 y11
      unfold hearsaylaw02_TermMakes.j4
      repeat' first
      | (with_reducible exact ih0 _ _ _ _ _ _ _ _ _)
      | (with_reducible exact ih1 _ _ _ _ _ _ _ _ _)
      | (with_reducible exact ih2 _ _ _ _ _ _ _ _ _ _)
      | (with_reducible exact ih3 _ _ _ _ _ _ _)
      | (with_reducible exact ih4 _ _ _ _ _ _ _ _ _ _ _ _)
      | (with_reducible exact ih5 _ _ _ _ _)
      | (with_reducible exact ih6 _ _ _ _ _)
      | (with_reducible exact ih7 _ _ _ _ _ _)
      | (with_reducible exact hearsaylaw02_rising.mono _ _)
      | (with_reducible exact hearsaylaw02_same.mono _ _ _ _ _ _ _ _ _ _ _)
      | (with_reducible exact hearsaylaw02_says.mono _ _ _)
      | (with_reducible exact term_Apply.mono _ _ _ _ _ _ _)
      | (with_reducible exact LeO.refl _)
      | (with_reducible exact LeO.none _)
      | (with_reducible refine LeO.ite ?_ ?_)
      | (with_reducible refine LeO.bind ?_ (fun _ => ?_))
      | exact ih0 _ _ _ _ _ _ _ _ _
      | exact ih1 _ _ _ _ _ _ _ _ _
      | exact ih2 _ _ _ _ _ _ _ _ _ _
      | exact ih3 _ _ _ _ _ _ _
      | exact ih4 _ _ _ _ _ _ _ _ _ _ _ _
      | exact ih5 _ _ _ _ _
      | exact ih6 _ _ _ _ _
      | exact ih7 _ _ _ _ _ _
      | exact hearsaylaw02_rising.mono _ _
      | exact hearsaylaw02_same.mono _ _ _ _ _ _ _ _ _ _ _
      | exact hearsaylaw02_says.mono _ _ _
      | exact term_Apply.mono _ _ _ _ _ _ _
      | exact LeO.none _
      | refine LeO.ite ?_ ?_
      | refine LeO.bind ?_ (fun _ => ?_)
    · intro y0 y1 y2 y3 y4
      unfold hearsaylaw02_TermMakes.j5
      repeat' first
      | (with_reducible exact ih0 _ _ _ _ _ _ _ _ _)
      | (with_reducible exact ih1 _ _ _ _ _ _ _ _ _)
      | (with_reducible exact ih2 _ _ _ _ _ _ _ _ _ _)
      | (with_reducible exact ih3 _ _ _ _ _ _ _)
      | (with_reducible exact ih4 _ _ _ _ _ _ _ _ _ _ _ _)
      | (with_reducible exact ih5 _ _ _ _ _)
      | (with_reducible exact ih6 _ _ _ _ _)
      | (with_reducible exact ih7 _ _ _ _ _ _)
      | (with_reducible exact hearsaylaw02_rising.mono _ _)
      | (with_reducible exact hearsaylaw02_same.mono _ _ _ _ _ _ _ _ _ _ _)
      | (with_reducible exact hearsaylaw02_says.mono _ _ _)
      | (with_reducible exact term_Apply.mono _ _ _ _ _ _ _)
      | (with_reducible exact LeO.refl _)
      | (with_reducible exact LeO.none _)
      | (with_reducible refine LeO.ite ?_ ?_)
      | (with_reducible refine LeO.bind ?_ (fun _ => ?_))
      | exact ih0 _ _ _ _ _ _ _ _ _
      | exact ih1 _ _ _ _ _ _ _ _ _
      | exact ih2 _ _ _ _ _ _ _ _ _ _
      | exact ih3 _ _ _ _ _ _ _
      | exact ih4 _ _ _ _ _ _ _ _ _ _ _ _
      | exact ih5 _ _ _ _ _
      | exact ih6 _ _ _ _ _
      | exact ih7 _ _ _ _ _ _
      | exact hearsaylaw02_rising.mono _ _
      | exact hearsaylaw02_same.mono _ _ _ _ _ _ _ _ _ _ _
      | exact hearsaylaw02_says.mono _ _ _
      | exact term_Apply.mono _ _ _ _ _ _ _
      | exact LeO.none _
      | refine LeO.ite ?_ ?_
      | refine LeO.bind ?_ (fun _ => ?_)
    · intro y0 y1 y2 y3 y4
      unfold hearsaylaw02_TermMakes.l1
      repeat' first
      | (with_reducible exact ih0 _ _ _ _ _ _ _ _ _)
      | (with_reducible exact ih1 _ _ _ _ _ _ _ _ _)
      | (with_reducible exact ih2 _ _ _ _ _ _ _ _ _ _)
      | (with_reducible exact ih3 _ _ _ _ _ _ _)
      | (with_reducible exact ih4 _ _ _ _ _ _ _ _ _ _ _ _)
      | (with_reducible exact ih5 _ _ _ _ _)
      | (with_reducible exact ih6 _ _ _ _ _)
      | (with_reducible exact ih7 _ _ _ _ _ _)
      | (with_reducible exact hearsaylaw02_rising.mono _ _)
      | (with_reducible exact hearsaylaw02_same.mono _ _ _ _ _ _ _ _ _ _ _)
      | (with_reducible exact hearsaylaw02_says.mono _ _ _)
      | (with_reducible exact term_Apply.mono _ _ _ _ _ _ _)
      | (with_reducible exact LeO.refl _)
      | (with_reducible exact LeO.none _)
      | (with_reducible refine LeO.ite ?_ ?_)
      | (with_reducible refine LeO.bind ?_ (fun _ => ?_))
      | exact ih0 _ _ _ _ _ _ _ _ _
      | exact ih1 _ _ _ _ _ _ _ _ _
      | exact ih2 _ _ _ _ _ _ _ _ _ _
      | exact ih3 _ _ _ _ _ _ _
      | exact ih4 _ _ _ _ _ _ _ _ _ _ _ _
      | exact ih5 _ _ _ _ _
      | exact ih6 _ _ _ _ _
      | exact ih7 _ _ _ _ _ _
      | exact hearsaylaw02_rising.mono _ _
      | exact hearsaylaw02_same.mono _ _ _ _ _ _ _ _ _ _ _
      | exact hearsaylaw02_says.mono _ _ _
      | exact term_Apply.mono _ _ _ _ _ _ _
      | exact LeO.none _
      | refine LeO.ite ?_ ?_
      | refine LeO.bind ?_ (fun _ => ?_)
    · intro y0 y1 y2 y3 y4 y5
      unfold hearsaylaw02_TermMakes.j7
      repeat' first
      | (with_reducible exact ih0 _ _ _ _ _ _ _ _ _)
      | (with_reducible exact ih1 _ _ _ _ _ _ _ _ _)
      | (with_reducible exact ih2 _ _ _ _ _ _ _ _ _ _)
      | (with_reducible exact ih3 _ _ _ _ _ _ _)
      | (with_reducible exact ih4 _ _ _ _ _ _ _ _ _ _ _ _)
      | (with_reducible exact ih5 _ _ _ _ _)
      | (with_reducible exact ih6 _ _ _ _ _)
      | (with_reducible exact ih7 _ _ _ _ _ _)
      | (with_reducible exact hearsaylaw02_rising.mono _ _)
      | (with_reducible exact hearsaylaw02_same.mono _ _ _ _ _ _ _ _ _ _ _)
      | (with_reducible exact hearsaylaw02_says.mono _ _ _)
      | (with_reducible exact term_Apply.mono _ _ _ _ _ _ _)
      | (with_reducible exact LeO.refl _)
      | (with_reducible exact LeO.none _)
      | (with_reducible refine LeO.ite ?_ ?_)
      | (with_reducible refine LeO.bind ?_ (fun _ => ?_))
      | exact ih0 _ _ _ _ _ _ _ _ _
      | exact ih1 _ _ _ _ _ _ _ _ _
      | exact ih2 _ _ _ _ _ _ _ _ _ _
      | exact ih3 _ _ _ _ _ _ _
      | exact ih4 _ _ _ _ _ _ _ _ _ _ _ _
      | exact ih5 _ _ _ _ _
      | exact ih6 _ _ _ _ _
      | exact ih7 _ _ _ _ _ _
      | exact hearsaylaw02_rising.mono _ _
      | exact hearsaylaw02_same.mono _ _ _ _ _ _ _ _ _ _ _
      | exact hearsaylaw02_says.mono _ _ _
      | exact term_Apply.mono _ _ _ _ _ _ _
      | exact LeO.none _
      | refine LeO.ite ?_ ?_
      | refine LeO.bind ?_ (fun _ => ?_)
theorem hearsaylaw02_TermMakes.mono : ∀ a0 a1 a2 a3 a4 a5 a6 a7 a8 a9 a10 k, LeO (hearsaylaw02_TermMakes.f k a0 a1 a2 a3 a4 a5 a6 a7 a8 a9 a10) (hearsaylaw02_TermMakes.f (k + 1) a0 a1 a2 a3 a4 a5 a6 a7 a8 a9 a10) := by
  intro a0 a1 a2 a3 a4 a5 a6 a7 a8 a9 a10 k
  obtain ⟨ih0, ih1, ih2, ih3, ih4, ih5, ih6, ih7⟩ := hearsaylaw02_TermMakes.mono_l k
  unfold hearsaylaw02_TermMakes.f
  repeat' first
      | (with_reducible exact ih0 _ _ _ _ _ _ _ _ _)
      | (with_reducible exact ih1 _ _ _ _ _ _ _ _ _)
      | (with_reducible exact ih2 _ _ _ _ _ _ _ _ _ _)
      | (with_reducible exact ih3 _ _ _ _ _ _ _)
      | (with_reducible exact ih4 _ _ _ _ _ _ _ _ _ _ _ _)
      | (with_reducible exact ih5 _ _ _ _ _)
      | (with_reducible exact ih6 _ _ _ _ _)
      | (with_reducible exact ih7 _ _ _ _ _ _)
      | (with_reducible exact hearsaylaw02_rising.mono _ _)
      | (with_reducible exact hearsaylaw02_same.mono _ _ _ _ _ _ _ _ _ _ _)
      | (with_reducible exact hearsaylaw02_says.mono _ _ _)
      | (with_reducible exact term_Apply.mono _ _ _ _ _ _ _)
      | (with_reducible exact LeO.refl _)
      | (with_reducible exact LeO.none _)
      | (with_reducible refine LeO.ite ?_ ?_)
      | (with_reducible refine LeO.bind ?_ (fun _ => ?_))
      | exact ih0 _ _ _ _ _ _ _ _ _
      | exact ih1 _ _ _ _ _ _ _ _ _
      | exact ih2 _ _ _ _ _ _ _ _ _ _
      | exact ih3 _ _ _ _ _ _ _
      | exact ih4 _ _ _ _ _ _ _ _ _ _ _ _
      | exact ih5 _ _ _ _ _
      | exact ih6 _ _ _ _ _
      | exact ih7 _ _ _ _ _ _
      | exact hearsaylaw02_rising.mono _ _
      | exact hearsaylaw02_same.mono _ _ _ _ _ _ _ _ _ _ _
      | exact hearsaylaw02_says.mono _ _ _
      | exact term_Apply.mono _ _ _ _ _ _ _
      | exact LeO.none _
      | refine LeO.ite ?_ ?_
      | refine LeO.bind ?_ (fun _ => ?_)
def hearsaylaw02_TermMakes.T2 : Bool × List (List Nat × List Nat) := (true, [([], []), ([0], [0]), ([1], [1]), ([2, 1, 1], [1, 2]), ([3, 1], [1, 3]), ([4, 3, 1], [1, 4]), ([5], [5]), ([5], [5]), ([6, 7, 5, 5], [5, 6, 7]), ([5], [5]), ([8, 9, 8, 5], [5, 8, 9]), ([10, 5], [5, 10]), ([5, 11, 1], [1, 5, 11]), ([1, 12], [1, 12])])
def hearsaylaw02_TermMakes.B2 : List Nat := [0, 1, 3, 7, 15, 31, 63, 63, 255, 63, 1023, 2047, 4095, 8191]
theorem hearsaylaw02_TermMakes.tab2 : rtab .any (opsOf Tryd.f5 2) = hearsaylaw02_TermMakes.T2 := by kernel_rfl
theorem hearsaylaw02_TermMakes.bits2 : waitsOk hearsaylaw02_TermMakes.T2.2 hearsaylaw02_TermMakes.B2 = true := by kernel_rfl
def hearsaylaw02_TermMakes.T7 : Bool × List (List Nat × List Nat) := (true, [([], []), ([], []), ([], []), ([1, 2], [1, 2]), ([3], [3]), ([4], [4]), ([0, 5], [0, 5]), ([], []), ([], []), ([], []), ([8, 9], [8, 9]), ([10], [10]), ([11], [11]), ([7, 12, 6], [7, 12]), ([6, 13], [6, 13])])
def hearsaylaw02_TermMakes.B7 : List Nat := [0, 0, 0, 6, 14, 30, 63, 0, 0, 0, 768, 1792, 3840, 8191, 16383]
theorem hearsaylaw02_TermMakes.tab7 : rtab .any (opsOf Tryd.f5 7) = hearsaylaw02_TermMakes.T7 := by kernel_rfl
theorem hearsaylaw02_TermMakes.bits7 : waitsOk hearsaylaw02_TermMakes.T7.2 hearsaylaw02_TermMakes.B7 = true := by kernel_rfl
def hearsaylaw02_TermMakes.T23 : Bool × List (List Nat × List Nat) := (true, [([], []), ([], []), ([], []), ([1, 2], [1, 2]), ([3], [3]), ([0, 4], [0, 4]), ([], []), ([], []), ([], []), ([7, 8], [7, 8]), ([9], [9]), ([6, 10, 5], [6, 10]), ([5, 11], [5, 11]), ([12, 11], [12]), ([13], [13]), ([13], [13]), ([13], [13]), ([15, 16, 13], [13, 15, 16]), ([17, 13], [13, 17]), ([14, 18, 13, 13], [13, 14, 18]), ([13], [13]), ([13], [13]), ([13], [13]), ([21, 22, 13], [13, 21, 22]), ([23, 13], [13, 23]), ([20, 24, 19, 13], [13, 20, 24]), ([19, 25, 13], [13, 19, 25]), ([13, 26], [13, 26])])
def hearsaylaw02_TermMakes.B23 : List Nat := [0, 0, 0, 6, 14, 31, 0, 0, 0, 384, 896, 2047, 4095, 8191, 16383, 16383, 16383, 114687, 245759, 524287, 16383, 16383, 16383, 6307839, 14696447, 33554431, 67108863, 134217727]
theorem hearsaylaw02_TermMakes.tab23 : rtab .any (opsOf Tryd.f5 23) = hearsaylaw02_TermMakes.T23 := by kernel_rfl
theorem hearsaylaw02_TermMakes.bits23 : waitsOk hearsaylaw02_TermMakes.T23.2 hearsaylaw02_TermMakes.B23 = true := by kernel_rfl
end Go.Proofs.YtnomgmlfagiffaaDoor.T
