/- PureB; PureM; PureUs; PureUf; GFunc; PureSm; PureS; PureUl; PureSy; PureRL; PureBA; PureFirst; PureUu: texts of this claim, laid together. -/
import Derived.Test.YtnomgmlfagiffaaDoorM0Uf
import Derived.Test.YtnomgmlfagiffaaDoorM1Uf
import Derived.Test.YtnomgmlfagiffaaDoorM4Uf
import Derived.Test.YtnomgmlfagiffaaDoorM6Uf
import Derived.Test.YtnomgmlfagiffaaDoorM7Uf
import Derived.Test.YtnomgmlfagiffaaDoorM2Uf
import Derived.Below
import Derived.WalkKit
import Derived.Lib.Walk
import Derived.Deep.LoopGhost
import Derived.Shelf.Abstract
import Derived.Deep.Draws
import Derived.Test.YtnomgmlfagiffaaDoorM5Uf
import Derived.Lib.Bytealg
import Derived.Lib.Small
import Derived.Test.YtnomgmlfagiffaaDoorM8Uf
/- Look and Become in closed form: the program's and the document's are the same. -/
set_option linter.unusedVariables false
set_option linter.unusedSimpArgs false
namespace Go.Proofs.YtnomgmlfagiffaaDoor.T
open Go.RowKit Go.Lib Go.Proofs.YtnomgmlfagiffaaDoorW.PrintWords
def lookR (s : List Bd) (v : Int) : Int × Int × ByteArray × Bool := match getM s v with | some t => (t.f0, t.f1, t.f2, true) | none => (0, 0, ⟨#[]⟩, false)
theorem getM_cons (b : Bd) (s : List Bd) (v : Int) : getM (b :: s) v = if b.f0 = v then some b.f1 else getM s v := by
  unfold getM
  rw [List.find?_cons]
  by_cases h : b.f0 = v
  · simp [h]
  · rw [show (b.f0 == v) = false by simpa using h, if_neg h]
theorem look_f (s : List Bd) (v : Int) (ls : s.length < smallN) : ∀ k, s.length + 1 ≤ k → term_Look.f k s v = some (lookR s v) := by
  intro k hk
  unfold term_Look.f
  suffices h : ∀ (n i k : Nat), s.length = i + n → n + 1 ≤ k → term_Look.l0 k v s (s.length : Int) (i : Int) = some (lookR (s.drop i) v) from h s.length 0 k (by omega) hk
  intro n
  induction n with
  | zero =>
    intro i k hi hk
    obtain ⟨k, rfl⟩ : ∃ m, k = m + 1 := ⟨k - 1, by omega⟩
    rw [term_Look.l0, if_neg (by omega), List.drop_eq_nil_of_le (by omega)]
    rfl
  | succ n ih =>
    intro i k hi hk
    obtain ⟨k, rfl⟩ : ∃ m, k = m + 1 := ⟨k - 1, by omega⟩
    rw [term_Look.l0, if_pos (by omega), if_pos (by omega), if_pos (by omega), rd_at44 _ _ (by omega), wrap_succ i (by omega), ih (i + 1) k (by omega) (by omega), List.drop_eq_getElem_cons (show i < s.length by omega)]
    unfold lookR
    rw [getM_cons]
    by_cases h : s[i].f0 = v
    · rw [if_pos h, if_pos h]
    · rw [if_neg h, if_neg h]
def becomeT (s : List Bd) (t : Tm) : Tm := if isVar t then (getM s t.f1).getD t else t
theorem become_f (s : List Bd) (t : Tm) (ls : s.length < smallN) (k : Nat) (hk : s.length + 1 ≤ k) : term_become.f k s t.f0 t.f1 t.f2 = some ((becomeT s t).f0, (becomeT s t).f1, (becomeT s t).f2) := by
  unfold term_become.f becomeT
  rw [var_f]
  cases isVar t with
  | false => simp
  | true =>
    simp only [Option.bind_some, if_true, look_f s t.f1 ls k hk, lookR]
    cases getM s t.f1 <;> simp
end Go.Proofs.YtnomgmlfagiffaaDoor.T
/- Matching, plainly: the map of the steps is the map of the binding grown step by step. -/
set_option linter.unusedVariables false
set_option linter.unusedSimpArgs false
namespace Go.Proofs.YtnomgmlfagiffaaDoor.T
open Go.RowKit Go.Lib Go.Proofs.YtnomgmlfagiffaaDoorW.PrintWords Go.Proofs.YtnomgmlfagiffaaDoor.Hs
theorem getM_put {v : Int} {t : Tm} (w : Int) : ∀ {m : List Bd}, Rising m → getM (putM v t m) w = if v = w then some t else getM m w
  | [], _ => by rw [putM, getM_cons]
  | c :: r, h => by
    obtain ⟨h1, h2⟩ := List.pairwise_cons.1 h
    unfold putM
    split
    · rw [getM_cons]
    · split
      · rename_i hv
        rw [getM_cons, getM_cons]
        by_cases e : v = w
        · rw [if_pos e, if_pos e]
        · rw [if_neg e, if_neg e, if_neg (by omega)]
      · rename_i hv hc
        rw [getM_cons, getM_put w h2, getM_cons]
        by_cases e : v = w
        · rw [if_neg (by omega), if_pos e, if_pos e]
        · rw [if_neg e, if_neg e]
end Go.Proofs.YtnomgmlfagiffaaDoor.T
/- Classes, plainly: what the linked terms stand for; what Unify answers by it. No machine. -/
set_option linter.unusedVariables false
set_option linter.unusedSimpArgs false
namespace Go.Proofs.YtnomgmlfagiffaaDoor.T
open Go.RowKit Go.Lib Go.Proofs.YtnomgmlfagiffaaDoorW.PrintWords Go.Proofs.YtnomgmlfagiffaaDoor.Hs
theorem isVar_eq {t : Tm} (h : isVar t = true) : t = ⟨3, t.f1, ⟨#[]⟩⟩ := by
  unfold isVar at h
  simp only [Bool.and_eq_true, decide_eq_true_eq, beq_iff_eq] at h
  obtain ⟨h0, h1, h2⟩ := h
  cases t
  simp only at h0 h2
  subst h0
  congr 1
  exact ba_ext (by rw [h2, toList_data])
theorem rank_var {t : Tm} (h : isVar t = true) : rankT t = t.f1.toNat + 1 := by unfold rankT; rw [if_pos h]
theorem rank_fix {t : Tm} (h : isVar t = false) : rankT t = 0 := by unfold rankT; rw [h]; rfl
/-- Ranks fall along the links. -/
def Dn (C : Cl) : Prop := ∀ t u, C t = some u → u ≠ t → rankT u < rankT t
theorem dn_nil : Dn (fun _ => none) := fun _ _ h => by cases h
theorem topN_more {C : Cl} (hD : Dn C) : ∀ n t, rankT t < n → ∀ k, rankT t < k → topN k C t = topN n C t := by
  intro n
  induction n with
  | zero => intro t h; omega
  | succ n ih =>
    intro t h k hk
    obtain ⟨k, rfl⟩ : ∃ j, k = j + 1 := ⟨k - 1, by omega⟩
    unfold topN
    cases hc : C t with
    | none => rfl
    | some u =>
      simp only
      cases he : eqT u t with
      | true => rfl
      | false =>
        have hne : u ≠ t := fun e => by rw [(eqT_iff u t).2 e] at he; cases he
        have hr := hD t u hc hne
        simp only [Bool.false_eq_true, if_false]
        exact ih u (by omega) k (by omega)
/-- The term that a term's class stands for. -/
noncomputable def rho (C : Cl) (t : Tm) : Tm := (topF C t).1
theorem rho_none {C : Cl} {t : Tm} (h : C t = none) : rho C t = t := by
  unfold rho topF topN
  rw [h]
theorem rho_self {C : Cl} {t : Tm} (h : C t = some t) : rho C t = t := by
  unfold rho topF topN
  rw [h]
  simp only
  rw [if_pos ((eqT_iff t t).2 rfl)]
theorem rho_step {C : Cl} (hD : Dn C) {t u : Tm} (h : C t = some u) : rho C t = rho C u := by
  by_cases hu : u = t
  · rw [hu]
  · have hr := hD t u h hu
    have he : eqT u t = false := by
      cases e : eqT u t with
      | false => rfl
      | true => exact absurd ((eqT_iff u t).1 e) hu
    show (topN (rankT t + 1) C t).1 = (topN (rankT u + 1) C u).1
    rw [topN_more hD (rankT u + 1) u (by omega) (rankT u + 1) (by omega)]
    have : topN (rankT t + 1) C t = topN (rankT t) C u := by
      rw [topN, h]
      simp only [he, Bool.false_eq_true, if_false]
    rw [this, topN_more hD (rankT u + 1) u (by omega) (rankT t) hr]
theorem rank_ind {P : Tm → Prop} (h : ∀ t, (∀ u, rankT u < rankT t → P u) → P t) : ∀ t, P t := by
  have : ∀ n t, rankT t < n → P t := by
    intro n
    induction n with
    | zero => intro t ht; omega
    | succ n ih => intro t ht; exact h t (fun u hu => ih u (by omega))
  exact fun t => this (rankT t + 1) t (by omega)
def RootC (C : Cl) (t : Tm) : Prop := C t = none ∨ C t = some t
theorem rho_rootC {C : Cl} {t : Tm} (h : RootC C t) : rho C t = t := h.elim rho_none rho_self
theorem rho_root {C : Cl} (hD : Dn C) : ∀ t, RootC C (rho C t) := by
  refine rank_ind (fun t ih => ?_)
  cases hc : C t with
  | none => rw [rho_none hc]; exact Or.inl hc
  | some u =>
    by_cases hu : u = t
    · subst hu; rw [rho_self hc]; exact Or.inr hc
    · rw [rho_step hD hc]; exact ih u (hD t u hc hu)
theorem rho_idem {C : Cl} (hD : Dn C) (t : Tm) : rho C (rho C t) = rho C t := rho_rootC (rho_root hD t)
theorem rho_rank {C : Cl} (hD : Dn C) : ∀ t, rankT (rho C t) ≤ rankT t ∧ (rho C t ≠ t → rankT (rho C t) < rankT t) := by
  refine rank_ind (fun t ih => ?_)
  cases hc : C t with
  | none => rw [rho_none hc]; exact ⟨Nat.le_refl _, fun h => absurd rfl h⟩
  | some u =>
    by_cases hu : u = t
    · subst hu; rw [rho_self hc]; exact ⟨Nat.le_refl _, fun h => absurd rfl h⟩
    · have hr := hD t u hc hu
      have h1 := (ih u hr).1
      rw [rho_step hD hc]
      exact ⟨by omega, fun _ => by omega⟩
theorem set_same (C : Cl) (z w : Tm) : C.set z w z = some w := by unfold Cl.set; rw [if_pos rfl]
theorem set_other {C : Cl} {z w t : Tm} (h : t ≠ z) : C.set z w t = C t := by unfold Cl.set; rw [if_neg h]
theorem set_dn {C : Cl} (hD : Dn C) {z w : Tm} (h : w = z ∨ rankT w < rankT z) : Dn (C.set z w) := by
  intro t u hc hne
  by_cases e : t = z
  · subst e
    rw [set_same] at hc
    injection hc with hc
    subst hc
    exact h.elim (fun h => absurd h hne) id
  · rw [set_other e] at hc
    exact hD t u hc hne
/-- A link that the root of itself bears changes nothing. -/
theorem rho_set_self {C : Cl} (hD : Dn C) {z : Tm} (hz : C z = none) : ∀ t, rho (C.set z z) t = rho C t := by
  have hD' : Dn (C.set z z) := set_dn hD (Or.inl rfl)
  refine rank_ind (fun t ih => ?_)
  by_cases e : t = z
  · subst e; rw [rho_self (set_same C t t), rho_none hz]
  · cases hc : C t with
    | none => rw [rho_none hc, rho_none ((set_other e).trans hc)]
    | some u =>
      by_cases hu : u = t
      · subst hu; rw [rho_self hc, rho_self ((set_other e).trans hc)]
      · rw [rho_step hD hc, rho_step hD' ((set_other e).trans hc)]
        exact ih u (hD t u hc hu)
open Classical in
/-- A new link between two roots. -/
theorem rho_link {C : Cl} (hD : Dn C) {z w : Tm} (hz : RootC C z) (hw : RootC C w) (hr : rankT w < rankT z) : ∀ t, rho (C.set z w) t = if rho C t = z then w else rho C t := by
  have hD' : Dn (C.set z w) := set_dn hD (Or.inr hr)
  have hwz : w ≠ z := fun e => by rw [e] at hr; omega
  have hw' : rho (C.set z w) w = w := rho_rootC (by unfold RootC; rw [set_other hwz]; exact hw)
  refine rank_ind (fun t ih => ?_)
  by_cases e : t = z
  · subst e
    rw [rho_step hD' (set_same C t w), hw', rho_rootC hz, if_pos rfl]
  · cases hc : C t with
    | none => rw [rho_none hc, rho_none ((set_other e).trans hc), if_neg e]
    | some u =>
      by_cases hu : u = t
      · subst hu; rw [rho_self hc, rho_self ((set_other e).trans hc), if_neg e]
      · rw [rho_step hD hc, rho_step hD' ((set_other e).trans hc)]
        exact ih u (hD t u hc hu)
theorem topN_map (C : Cl) : ∀ k t, (topN k C t).2 = C ∨ ∃ z, C z = none ∧ (topN k C t).2 = C.set z z := by
  intro k
  induction k with
  | zero => intro t; exact Or.inl rfl
  | succ k ih =>
    intro t
    unfold topN
    cases hc : C t with
    | none => exact Or.inr ⟨t, hc, rfl⟩
    | some u =>
      simp only
      cases he : eqT u t with
      | true => exact Or.inl rfl
      | false => simp only [Bool.false_eq_true, if_false]; exact ih u
theorem topF_same {C : Cl} (hD : Dn C) (t : Tm) : Dn (topF C t).2 ∧ ∀ s, rho (topF C t).2 s = rho C s := by
  rcases topN_map C (rankT t + 1) t with h | ⟨z, hz, h⟩
  · unfold topF; rw [h]; exact ⟨hD, fun _ => rfl⟩
  · unfold topF; rw [h]; exact ⟨set_dn hD (Or.inl rfl), rho_set_self hD hz⟩
theorem root_of {C : Cl} (hD : Dn C) {t : Tm} (h : rho C t = t) : RootC C t := by
  have := rho_root hD t
  rw [h] at this
  exact this
open Classical in
theorem link_true {C C' : Cl} (hD : Dn C) {a b : Tm} (h : linkF C a b = (true, C')) : Dn C' ∧ (((∀ s, rho C' s = rho C s) ∧ rho C a = rho C b) ∨ ∃ z w, z ≠ w ∧ ((z = rho C a ∧ w = rho C b) ∨ (z = rho C b ∧ w = rho C a)) ∧ ∀ s, rho C' s = if rho C s = z then w else rho C s) := by
  obtain ⟨hD1, h1⟩ := topF_same hD a
  obtain ⟨hD2, h2⟩ := topF_same hD1 b
  have hx : (topF C a).1 = rho C a := rfl
  have hy : (topF (topF C a).2 b).1 = rho C b := (h1 b)
  have hs : ∀ s, rho (topF (topF C a).2 b).2 s = rho C s := fun s => (h2 s).trans (h1 s)
  unfold linkF at h
  rw [hx, hy] at h
  generalize (topF (topF C a).2 b).2 = C2 at *
  have rx : RootC C2 (rho C a) := root_of hD2 (by rw [hs]; exact rho_idem hD a)
  have ry : RootC C2 (rho C b) := root_of hD2 (by rw [hs]; exact rho_idem hD b)
  have key : ∀ z w, RootC C2 z → RootC C2 w → rankT w < rankT z → Dn (C2.set z w) ∧ ∀ s, rho (C2.set z w) s = if rho C s = z then w else rho C s := fun z w hz hw hr =>
    ⟨set_dn hD2 (Or.inr hr), fun s => by rw [rho_link hD2 hz hw hr s, hs]⟩
  generalize rho C a = x at *
  generalize rho C b = y at *
  unfold linkR at h
  cases he : eqT x y with
  | true =>
    rw [if_pos he] at h
    injection h with _ h
    subst h
    exact ⟨hD2, Or.inl ⟨hs, (eqT_iff x y).1 he⟩⟩
  | false =>
    have hne : x ≠ y := fun e => by rw [(eqT_iff x y).2 e] at he; cases he
    rw [he] at h
    simp only [Bool.false_eq_true, if_false] at h
    cases hvx : isVar x with
    | false =>
      cases hvy : isVar y with
      | false => rw [hvx, hvy] at h; simp at h
      | true =>
        rw [hvx, hvy] at h
        simp at h
        subst h
        obtain ⟨k1, k2⟩ := key y x ry rx (by rw [rank_fix hvx, rank_var hvy]; omega)
        exact ⟨k1, Or.inr ⟨y, x, fun e => hne e.symm, Or.inr ⟨rfl, rfl⟩, k2⟩⟩
    | true =>
      cases hvy : isVar y with
      | false =>
        rw [hvx, hvy] at h
        simp at h
        subst h
        obtain ⟨k1, k2⟩ := key x y rx ry (by rw [rank_fix hvy, rank_var hvx]; omega)
        exact ⟨k1, Or.inr ⟨x, y, hne, Or.inl ⟨rfl, rfl⟩, k2⟩⟩
      | true =>
        rw [hvx, hvy] at h
        have px := isVar_parts hvx
        have py := isVar_parts hvy
        have hn : x.f1 ≠ y.f1 := fun e => hne (by rw [isVar_eq hvx, isVar_eq hvy, e])
        by_cases hl : x.f1 < y.f1
        · simp [hl] at h
          subst h
          obtain ⟨k1, k2⟩ := key y x ry rx (by rw [rank_var hvx, rank_var hvy]; omega)
          exact ⟨k1, Or.inr ⟨y, x, fun e => hne e.symm, Or.inr ⟨rfl, rfl⟩, k2⟩⟩
        · simp [hl] at h
          subst h
          obtain ⟨k1, k2⟩ := key x y rx ry (by rw [rank_var hvx, rank_var hvy]; omega)
          exact ⟨k1, Or.inr ⟨x, y, hne, Or.inl ⟨rfl, rfl⟩, k2⟩⟩
theorem link_false {C : Cl} (hD : Dn C) {a b : Tm} (h : (linkF C a b).1 = false) : isVar (rho C a) = false ∧ isVar (rho C b) = false ∧ rho C a ≠ rho C b := by
  obtain ⟨hD1, h1⟩ := topF_same hD a
  have hx : (topF C a).1 = rho C a := rfl
  have hy : (topF (topF C a).2 b).1 = rho C b := (h1 b)
  unfold linkF at h
  rw [hx, hy] at h
  generalize rho C a = x at *
  generalize rho C b = y at *
  unfold linkR at h
  cases he : eqT x y with
  | true => rw [if_pos he] at h; cases h
  | false =>
    have hne : x ≠ y := fun e => by rw [(eqT_iff x y).2 e] at he; cases he
    rw [he] at h
    simp only [Bool.false_eq_true, if_false] at h
    cases hvx : isVar x with
    | false =>
      cases hvy : isVar y with
      | false => exact ⟨rfl, rfl, hne⟩
      | true => rw [hvx, hvy] at h; simp at h
    | true =>
      cases hvy : isVar y with
      | false => rw [hvx, hvy] at h; simp at h
      | true => rw [hvx, hvy] at h; by_cases hl : x.f1 < y.f1 <;> simp [hl] at h
/-- What is linked, step by step. -/
inductive Ln (R : Tm → Tm → Prop) : Tm → Tm → Prop
  | rel {t u : Tm} (h : R t u) : Ln R t u
  | refl (t : Tm) : Ln R t t
  | symm {t u : Tm} (h : Ln R t u) : Ln R u t
  | trans {t u v : Tm} (h : Ln R t u) (h2 : Ln R u v) : Ln R t v
theorem Ln.mono {R S : Tm → Tm → Prop} (hs : ∀ t u, R t u → Ln S t u) {t u : Tm} (h : Ln R t u) : Ln S t u := by
  induction h with
  | rel h => exact hs _ _ h
  | refl t => exact .refl t
  | symm _ ih => exact .symm ih
  | trans _ _ i1 i2 => exact .trans i1 i2
theorem Ln.by_ {R : Tm → Tm → Prop} {f : Tm → Tm} (hs : ∀ t u, R t u → f t = f u) {t u : Tm} (h : Ln R t u) : f t = f u := by
  induction h with
  | rel h => exact hs _ _ h
  | refl t => rfl
  | symm _ ih => exact ih.symm
  | trans _ _ i1 i2 => exact i1.trans i2
theorem link_rel {C C' : Cl} {R : Tm → Tm → Prop} (hD : Dn C) (hR : ∀ s u, rho C s = rho C u ↔ Ln R s u) {a b : Tm} (h : linkF C a b = (true, C')) : Dn C' ∧ ∀ s u, rho C' s = rho C' u ↔ Ln (fun t u => R t u ∨ (t = a ∧ u = b)) s u := by
  classical
  obtain ⟨hD', hc⟩ := link_true hD h
  refine ⟨hD', fun s u => ⟨fun e => ?_, fun e => e.by_ (f := rho C') ?_⟩⟩
  · have hm : ∀ {t v}, Ln R t v → Ln (fun t u => R t u ∨ (t = a ∧ u = b)) t v := fun h => h.mono (fun t u h => .rel (Or.inl h))
    have hab : Ln (fun t u => R t u ∨ (t = a ∧ u = b)) a b := .rel (Or.inr ⟨rfl, rfl⟩)
    have ho : ∀ t, Ln R t (rho C t) := fun t => (hR t (rho C t)).1 (rho_idem hD t).symm
    have hn : ∀ t, Ln (fun t u => R t u ∨ (t = a ∧ u = b)) t (rho C' t) := by
      intro t
      rcases hc with ⟨h1, _⟩ | ⟨z, w, hzw, hp, h1⟩
      · rw [h1]; exact hm (ho t)
      · rw [h1]
        by_cases ez : rho C t = z
        · rw [if_pos ez]
          have h2 := hm (ho t)
          rw [ez] at h2
          refine h2.trans ?_
          rcases hp with ⟨rfl, rfl⟩ | ⟨rfl, rfl⟩
          · exact (hm (ho a)).symm.trans (hab.trans (hm (ho b)))
          · exact (hm (ho b)).symm.trans (hab.symm.trans (hm (ho a)))
        · rw [if_neg ez]; exact hm (ho t)
    have h3 := hn s
    rw [e] at h3
    exact h3.trans (hn u).symm
  · have hf : ∀ t v, rho C t = rho C v → rho C' t = rho C' v := fun t v e => by
      rcases hc with ⟨h1, _⟩ | ⟨z, w, hzw, hp, h1⟩
      · rw [h1, h1, e]
      · rw [h1, h1, e]
    rintro t v (hr | ⟨rfl, rfl⟩)
    · exact hf t v ((hR t v).2 (.rel hr))
    · rcases hc with ⟨h1, h2⟩ | ⟨z, w, hzw, hp, h1⟩
      · rw [h1, h1, h2]
      · rw [h1, h1]
        rcases hp with ⟨rfl, rfl⟩ | ⟨rfl, rfl⟩
        · rw [if_pos rfl, if_neg (fun e => hzw e.symm)]
        · rw [if_pos rfl, if_neg (fun e => hzw e.symm)]
theorem ln_zip {R : Tm → Tm → Prop} {a b : Tm} {P Q : List Tm} {s u : Tm} : Ln (fun t u => (R t u ∨ (t = a ∧ u = b)) ∨ (t, u) ∈ P.zip Q) s u ↔ Ln (fun t u => R t u ∨ (t, u) ∈ (a :: P).zip (b :: Q)) s u := by
  have : (fun t u => (R t u ∨ (t = a ∧ u = b)) ∨ (t, u) ∈ P.zip Q) = (fun t u => R t u ∨ (t, u) ∈ (a :: P).zip (b :: Q)) := by
    funext t u
    apply propext
    rw [List.zip_cons_cons, List.mem_cons, Prod.mk.injEq, or_assoc]
  rw [this]
theorem linkAll_rel : ∀ (P Q : List Tm) (C : Cl) (R : Tm → Tm → Prop), P.length = Q.length → Dn C → (∀ s u, rho C s = rho C u ↔ Ln R s u) →
    (∀ C', linkAll P Q C = some C' → Dn C' ∧ ∀ s u, rho C' s = rho C' u ↔ Ln (fun t u => R t u ∨ (t, u) ∈ P.zip Q) s u) ∧
    (linkAll P Q C = none → ∃ s u, isVar s = false ∧ isVar u = false ∧ s ≠ u ∧ Ln (fun t u => R t u ∨ (t, u) ∈ P.zip Q) s u)
  | [], _, C, R, _, hD, hR => by
    refine ⟨fun C' h => ?_, fun h => by simp [linkAll] at h⟩
    simp only [linkAll, Option.some.injEq] at h
    subst h
    refine ⟨hD, fun s u => (hR s u).trans ?_⟩
    simp
  | _ :: _, [], _, _, h, _, _ => by simp at h
  | a :: P, b :: Q, C, R, hl, hD, hR => by
    cases hk : linkF C a b with
    | mk ok C1 =>
      cases ok with
      | false =>
        refine ⟨fun C' h => ?_, fun _ => ?_⟩
        · unfold linkAll at h
          rw [hk] at h
          simp at h
        · obtain ⟨h1, h2, h3⟩ := link_false hD (a := a) (b := b) (by rw [hk])
          refine ⟨_, _, h1, h2, h3, ?_⟩
          have ho : ∀ t, Ln R t (rho C t) := fun t => (hR t (rho C t)).1 (rho_idem hD t).symm
          have hm : ∀ {t v}, Ln R t v → Ln (fun t u => R t u ∨ (t, u) ∈ (a :: P).zip (b :: Q)) t v := fun h => h.mono (fun t u h => .rel (Or.inl h))
          exact (hm (ho a)).symm.trans (Ln.trans (.rel (Or.inr (by simp))) (hm (ho b)))
      | true =>
        obtain ⟨hD1, h1⟩ := link_rel hD hR hk
        obtain ⟨i1, i2⟩ := linkAll_rel P Q C1 _ (by simpa using hl) hD1 h1
        have e : linkAll (a :: P) (b :: Q) C = linkAll P Q C1 := by
          rw [linkAll, hk]
          simp
        rw [e]
        refine ⟨fun C' h => ?_, fun h => ?_⟩
        · obtain ⟨k1, k2⟩ := i1 C' h
          exact ⟨k1, fun s u => (k2 s u).trans ln_zip⟩
        · obtain ⟨s, u, k1, k2, k3, k4⟩ := i2 h
          exact ⟨s, u, k1, k2, k3, ln_zip.1 k4⟩
theorem byAll_rel : ∀ (L : List Tm) (C : Cl), Dn C →
    (∀ C', byAll L C = some C' → Dn C' ∧ (∀ s, rho C' s = rho C s) ∧ ∀ t ∈ L, isVar t = true → isVar (rho C t) = true ∨ isPrin (rho C t) = true) ∧
    (byAll L C = none → ∃ t ∈ L, isVar t = true ∧ isVar (rho C t) = false ∧ isPrin (rho C t) = false)
  | [], C, hD => by
    refine ⟨fun C' h => ?_, fun h => by simp [byAll] at h⟩
    simp only [byAll, Option.some.injEq] at h
    subst h
    exact ⟨hD, fun _ => rfl, fun t ht => by simp at ht⟩
  | t :: L, C, hD => by
    obtain ⟨hD1, h1⟩ := topF_same hD t
    obtain ⟨i1, i2⟩ := byAll_rel L (topF C t).2 hD1
    have hx : (topF C t).1 = rho C t := rfl
    unfold byAll
    rw [hx]
    cases hb : (isVar t && (!isVar (rho C t) && !isPrin (rho C t))) with
    | true =>
      rw [if_pos rfl]
      simp only [Bool.and_eq_true, Bool.not_eq_true'] at hb
      exact ⟨fun C' h => (by cases h), fun _ => ⟨t, by simp, hb.1, hb.2.1, hb.2.2⟩⟩
    | false =>
      rw [if_neg (by simp)]
      refine ⟨fun C' h => ?_, fun h => ?_⟩
      · obtain ⟨k1, k2, k3⟩ := i1 C' h
        refine ⟨k1, fun s => (k2 s).trans (h1 s), fun v hv hvv => ?_⟩
        rcases List.mem_cons.1 hv with rfl | hv
        · rw [hvv] at hb
          cases h4 : isVar (rho C v) with
          | true => exact Or.inl rfl
          | false =>
            cases h5 : isPrin (rho C v) with
            | true => exact Or.inr rfl
            | false => rw [h4, h5] at hb; simp at hb
        · have := k3 v hv hvv
          rw [h1] at this
          exact this
      · obtain ⟨v, hv, h2, h3, h4⟩ := i2 h
        rw [h1] at h3 h4
        exact ⟨v, by simp [hv], h2, h3, h4⟩
theorem finU_get (r : Tm → Tm) (v : Int) : ∀ (L : List Tm) (C : Cl) (m : List Bd), Dn C → (∀ s, rho C s = r s) → Rising m →
    Rising (finU L C m) ∧ getM (finU L C m) v = if ((L.any fun t => isVar t && (t.f1 == v)) && !eqT (r ⟨3, v, ⟨#[]⟩⟩) ⟨3, v, ⟨#[]⟩⟩) = true then some (r ⟨3, v, ⟨#[]⟩⟩) else getM m v
  | [], C, m, _, _, hm => ⟨hm, by simp [finU]⟩
  | t :: L, C, m, hD, hr, hm => by
    obtain ⟨hD1, h1⟩ := topF_same hD t
    have hx : (topF C t).1 = r t := (hr t)
    unfold finU
    rw [hx]
    by_cases hb : (isVar t && !eqT (r t) t) = true
    · rw [if_pos hb]
      obtain ⟨k1, k2⟩ := finU_get r v L (topF C t).2 (putM t.f1 (r t) m) hD1 (fun s => (h1 s).trans (hr s)) (putM_rising hm)
      refine ⟨k1, ?_⟩
      rw [k2, getM_put v hm, List.any_cons]
      simp only [Bool.and_eq_true, Bool.not_eq_true'] at hb
      have ht := isVar_eq hb.1
      by_cases hv : t.f1 = v
      · subst hv
        rw [← ht, hb.1, hb.2]
        simp
      · have : (t.f1 == v) = false := by simpa using hv
        rw [this, if_neg hv]
        simp
    · rw [if_neg hb]
      obtain ⟨k1, k2⟩ := finU_get r v L (topF C t).2 m hD1 (fun s => (h1 s).trans (hr s)) hm
      refine ⟨k1, ?_⟩
      rw [k2, List.any_cons]
      by_cases hv : isVar t = true ∧ t.f1 = v
      · obtain ⟨h2, rfl⟩ := hv
        have ht := isVar_eq h2
        have he : eqT (r t) t = true := by
          cases e : eqT (r t) t with
          | true => rfl
          | false => rw [h2, e] at hb; simp at hb
        rw [← ht, he]
        simp
      · have : (isVar t && (t.f1 == v)) = false := by
          cases h2 : isVar t with
          | false => rfl
          | true => simp only [Bool.true_and, beq_eq_false_iff_ne]; exact fun e => hv ⟨h2, e⟩
        rw [this]
        simp
theorem unify_none' {n0 n1 : ByteArray} {p q : List Tm} {x y : Tm} (hn : n0.toList = n1.toList) (hl : p.length = q.length) (h : linkAll (x :: p) (y :: q) (fun _ => none) = none) : unifyL n0 p n1 q x y = ([], false) := by
  unfold unifyL
  rw [if_neg (fun h => h.elim (fun h => h hn) (fun h => h hl)), h]
theorem unify_by' {n0 n1 : ByteArray} {p q : List Tm} {x y : Tm} {C : Cl} (hn : n0.toList = n1.toList) (hl : p.length = q.length) (h : linkAll (x :: p) (y :: q) (fun _ => none) = some C) (hb : byAll [x, y] C = none) : unifyL n0 p n1 q x y = ([], false) := by
  unfold unifyL
  rw [if_neg (fun h => h.elim (fun h => h hn) (fun h => h hl)), h]
  simp only
  rw [hb]
theorem unify_some' {n0 n1 : ByteArray} {p q : List Tm} {x y : Tm} {C C' : Cl} (hn : n0.toList = n1.toList) (hl : p.length = q.length) (h : linkAll (x :: p) (y :: q) (fun _ => none) = some C) (hb : byAll [x, y] C = some C') : unifyL n0 p n1 q x y = (finU ((x :: p) ++ (y :: q)) C' [], true) := by
  unfold unifyL
  rw [if_neg (fun h => h.elim (fun h => h hn) (fun h => h hl)), h]
  simp only
  rw [hb]
/-- Unify's answer, by what is linked. -/
structure Uni (P Q : List Tm) (r : Tm → Tm) (m : List Bd) : Prop where
  same : ∀ s u, r s = r u ↔ Ln (fun t u => (t, u) ∈ P.zip Q) s u
  idem : ∀ s, r (r s) = r s
  rank : ∀ s, rankT (r s) ≤ rankT s ∧ (r s ≠ s → rankT (r s) < rankT s)
  ris : Rising m
  get : ∀ v, getM m v = if (((P ++ Q).any fun t => isVar t && (t.f1 == v)) && !eqT (r ⟨3, v, ⟨#[]⟩⟩) ⟨3, v, ⟨#[]⟩⟩) = true then some (r ⟨3, v, ⟨#[]⟩⟩) else none
theorem Uni.fix {P Q : List Tm} {r : Tm → Tm} {m : List Bd} (h : Uni P Q r m) {t : Tm} (ht : isVar t = false) : r t = t := by
  by_cases e : r t = t
  · exact e
  · have := (h.rank t).2 e
    rw [rank_fix ht] at this
    omega
theorem unifyL_spec (n0 n1 : ByteArray) (p q : List Tm) (x y : Tm) :
    (unifyL n0 p n1 q x y = ([], false) ∧ (n0.toList ≠ n1.toList ∨ p.length ≠ q.length ∨
      (∃ s u, isVar s = false ∧ isVar u = false ∧ s ≠ u ∧ Ln (fun t u => (t, u) ∈ (x :: p).zip (y :: q)) s u) ∨
      (∃ t, (t = x ∨ t = y) ∧ isVar t = true ∧ ∃ c, isVar c = false ∧ isPrin c = false ∧ Ln (fun t u => (t, u) ∈ (x :: p).zip (y :: q)) t c))) ∨
    (∃ m r, unifyL n0 p n1 q x y = (m, true) ∧ n0.toList = n1.toList ∧ p.length = q.length ∧ Uni (x :: p) (y :: q) r m ∧ ∀ t, (t = x ∨ t = y) → isVar t = true → isVar (r t) = true ∨ isPrin (r t) = true) := by
  by_cases hn : n0.toList = n1.toList
  · by_cases hl : p.length = q.length
    · have e0 : (fun t u => (False ∨ (t, u) ∈ (x :: p).zip (y :: q))) = fun t u => (t, u) ∈ (x :: p).zip (y :: q) := by funext t u; simp
      obtain ⟨i1, i2⟩ := linkAll_rel (x :: p) (y :: q) (fun _ => none) (fun _ _ => False) (by simp [hl]) dn_nil (fun s u => by
        rw [rho_none rfl, rho_none rfl]
        refine ⟨fun e => (by rw [e]; exact .refl u), fun h => h.by_ (f := id) (fun _ _ h => h.elim)⟩)
      rw [e0] at i1 i2
      cases hk : linkAll (x :: p) (y :: q) (fun _ => none) with
      | none => exact Or.inl ⟨unify_none' hn hl hk, Or.inr (Or.inr (Or.inl (i2 hk)))⟩
      | some C =>
        obtain ⟨hD, hs⟩ := i1 C hk
        obtain ⟨j1, j2⟩ := byAll_rel [x, y] C hD
        cases hb : byAll [x, y] C with
        | none =>
          obtain ⟨t, ht, h1, h2, h3⟩ := j2 hb
          refine Or.inl ⟨unify_by' hn hl hk hb, Or.inr (Or.inr (Or.inr ⟨t, by simpa using ht, h1, rho C t, h2, h3, (hs _ _).1 (rho_idem hD t).symm⟩))⟩
        | some C1 =>
          obtain ⟨hD1, h1, h2⟩ := j1 C1 hb
          refine Or.inr ⟨_, rho C, unify_some' hn hl hk hb, hn, hl, ⟨hs, rho_idem hD, rho_rank hD, ?_, fun v => ?_⟩, fun t ht hv => h2 t (by simpa using ht) hv⟩
          · exact (finU_get (rho C) 0 _ C1 [] hD1 h1 List.Pairwise.nil).1
          · exact (finU_get (rho C) v _ C1 [] hD1 h1 List.Pairwise.nil).2
    · refine Or.inl ⟨?_, Or.inr (Or.inl hl)⟩
      unfold unifyL
      rw [if_pos (Or.inr hl)]
  · refine Or.inl ⟨?_, Or.inl hn⟩
    unfold unifyL
    rw [if_pos (Or.inl hn)]
/-- A binding that has all variables' values makes what they stand for. -/
theorem Uni.become {P Q : List Tm} {r : Tm → Tm} {m : List Bd} (h : Uni P Q r m) {t : Tm} (ht : t ∈ P ∨ t ∈ Q) : becomeT m t = r t := by
  unfold becomeT
  cases hv : isVar t with
  | false => simp only [Bool.false_eq_true, if_false]; exact (h.fix hv).symm
  | true =>
    simp only [if_true]
    have e := isVar_eq hv
    rw [h.get, ← e]
    have ha : ((P ++ Q).any fun s => isVar s && (s.f1 == t.f1)) = true := List.any_eq_true.2 ⟨t, by simpa using ht, by simp [hv]⟩
    rw [ha]
    cases he : eqT (r t) t with
    | true => simp [(eqT_iff _ _).1 he]
    | false => simp
theorem rising_ext {m n : List Bd} (hm : Rising m) (hn : Rising n) (h : ∀ v, getM m v = getM n v) : m = n := by
  refine rising_eq hm hn (fun b => ⟨fun hb => ?_, fun hb => ?_⟩)
  · have := rising_getM hm hb
    rw [h] at this
    exact getM_mem this
  · have := rising_getM hn hb
    rw [← h] at this
    exact getM_mem this
/-- Whatever makes the places one makes one of what is linked. -/
theorem ln_sub {P Q : List Tm} {f : Tm → Tm} (h : P.map f = Q.map f) {s u : Tm} (hl : Ln (fun t u => (t, u) ∈ P.zip Q) s u) : f s = f u := by
  refine hl.by_ (fun t u hm => ?_)
  obtain ⟨i, hi, e⟩ := List.mem_iff_getElem.1 hm
  rw [List.getElem_zip] at e
  injection e with e1 e2
  have := congrArg (fun l => l[i]?) h
  simp only [List.getElem?_map] at this
  rw [List.length_zip] at hi
  rw [List.getElem?_eq_getElem (by omega), List.getElem?_eq_getElem (by omega), e1, e2] at this
  simpa using this
theorem become_fix (s : List Bd) {t : Tm} (h : isVar t = false) : becomeT s t = t := by unfold becomeT; rw [h]; rfl
theorem uni_map {P Q : List Tm} {r : Tm → Tm} (hl : P.length = Q.length) (h : ∀ s u, r s = r u ↔ Ln (fun t u => (t, u) ∈ P.zip Q) s u) : P.map r = Q.map r := by
  refine List.ext_getElem (by simp [hl]) (fun i h1 h2 => ?_)
  simp only [List.length_map] at h1 h2
  simp only [List.getElem_map]
  refine (h _ _).2 (.rel ?_)
  have : (P.zip Q)[i]'(by rw [List.length_zip]; omega) = (P[i], Q[i]) := List.getElem_zip
  rw [← this]
  exact List.getElem_mem _
end Go.Proofs.YtnomgmlfagiffaaDoor.T
/- What Unify answers, plainly: it makes the two one, twice is once, either way round; whatever makes the two one goes through it. -/
set_option linter.unusedVariables false
set_option linter.unusedSimpArgs false
namespace Go.Proofs.YtnomgmlfagiffaaDoor.T
open Go.RowKit Go.Lib Go.Proofs.YtnomgmlfagiffaaDoorW.PrintWords Go.Proofs.YtnomgmlfagiffaaDoor.Hs
theorem ln_swap {P Q : List Tm} {s u : Tm} (h : Ln (fun t u => (t, u) ∈ P.zip Q) s u) : Ln (fun t u => (t, u) ∈ Q.zip P) s u := by
  refine h.mono (fun t u hm => .symm (.rel ?_))
  obtain ⟨i, hi, e⟩ := List.mem_iff_getElem.1 hm
  rw [List.getElem_zip] at e
  injection e with e1 e2
  rw [List.length_zip] at hi
  have : (Q.zip P)[i]'(by rw [List.length_zip]; omega) = (Q[i], P[i]) := List.getElem_zip
  rw [← e1, ← e2, ← this]
  exact List.getElem_mem _
/-- Two fixed terms of one class are one. -/
theorem Uni.one {P Q : List Tm} {r : Tm → Tm} {m : List Bd} (h : Uni P Q r m) {s u : Tm} (hs : isVar s = false) (hu : isVar u = false) (hl : Ln (fun t u => (t, u) ∈ P.zip Q) s u) : s = u := by
  have := (h.same s u).2 hl
  rwa [h.fix hs, h.fix hu] at this
theorem uni_roots {P Q P' Q' : List Tm} {r r' : Tm → Tm} {m m' : List Bd} (h : Uni P Q r m) (h' : Uni P' Q' r' m') (hPQ : ∀ {s u}, Ln (fun t u => (t, u) ∈ P.zip Q) s u ↔ Ln (fun t u => (t, u) ∈ P'.zip Q') s u) (t : Tm) : r t = r' t := by
  have e1 : r (r' t) = r t := (h.same _ _).2 (hPQ.2 ((h'.same _ _).1 (h'.idem t)))
  have e2 : r' (r t) = r' t := (h'.same _ _).2 (hPQ.1 ((h.same _ _).1 (h.idem t)))
  by_cases e : r t = r' t
  · exact e
  · have k1 := (h.rank (r' t)).2 (by rw [e1]; exact e)
    have k2 := (h'.rank (r t)).2 (by rw [e2]; exact fun e' => e e'.symm)
    rw [e1] at k1
    rw [e2] at k2
    omega
theorem Uni.again {P Q : List Tm} {r : Tm → Tm} {m : List Bd} (h : Uni P Q r m) (t : Tm) : becomeT m (r t) = r t := by
  unfold becomeT
  cases hv : isVar (r t) with
  | false => rfl
  | true =>
    simp only [if_true]
    have e := isVar_eq hv
    rw [h.get, ← e, h.idem, show eqT (r t) (r t) = true from (eqT_iff _ _).2 rfl]
    simp
theorem Uni.both {P Q : List Tm} {r : Tm → Tm} {m : List Bd} (h : Uni P Q r m) (hl : P.length = Q.length) : P.map (becomeT m) = Q.map (becomeT m) := by
  rw [List.map_congr_left (fun t ht => h.become (Or.inl ht)), List.map_congr_left (l := Q) (fun t ht => h.become (Or.inr ht))]
  exact uni_map hl h.same
theorem Uni.twice {P Q : List Tm} {r : Tm → Tm} {m : List Bd} (h : Uni P Q r m) : (P.map (becomeT m)).map (becomeT m) = P.map (becomeT m) := by
  rw [List.map_map]
  refine List.map_congr_left (fun t ht => ?_)
  rw [Function.comp_apply, h.become (Or.inl ht), h.again]
theorem Uni.through {P Q : List Tm} {r : Tm → Tm} {m τ : List Bd} (h : Uni P Q r m) (hτ : P.map (becomeT τ) = Q.map (becomeT τ)) : (P.map (becomeT m)).map (becomeT τ) = P.map (becomeT τ) := by
  rw [List.map_map]
  refine List.map_congr_left (fun t ht => ?_)
  rw [Function.comp_apply, h.become (Or.inl ht)]
  exact ln_sub hτ ((h.same _ _).1 (h.idem t))
theorem unify_swap (n0 n1 : ByteArray) (p q : List Tm) (x y : Tm) : unifyL n1 q n0 p y x = unifyL n0 p n1 q x y := by
  rcases unifyL_spec n0 n1 p q x y with ⟨h1, k1⟩ | ⟨m, r, h1, hn, hl, hu, hq⟩
  · rcases unifyL_spec n1 n0 q p y x with ⟨h2, k2⟩ | ⟨m, r, h2, hn, hl, hu, hq⟩
    · rw [h1, h2]
    · exfalso
      rcases k1 with h | h | ⟨s, u, ha, hb, hne, h⟩ | ⟨t, ht, hv, c, hc, hp, h⟩
      · exact h hn.symm
      · exact h hl.symm
      · exact hne (hu.one ha hb (ln_swap h))
      · have e := (hu.same t c).2 (ln_swap h)
        rw [hu.fix hc] at e
        have := hq t (ht.elim Or.inr Or.inl) hv
        rw [e, hc, hp] at this
        simp at this
  · rcases unifyL_spec n1 n0 q p y x with ⟨h2, k2⟩ | ⟨m', r', h2, hn', hl', hu', hq'⟩
    · exfalso
      rcases k2 with h | h | ⟨s, u, ha, hb, hne, h⟩ | ⟨t, ht, hv, c, hc, hp, h⟩
      · exact h hn.symm
      · exact h hl.symm
      · exact hne (hu.one ha hb (ln_swap h))
      · have e := (hu.same t c).2 (ln_swap h)
        rw [hu.fix hc] at e
        have := hq t (ht.elim Or.inr Or.inl) hv
        rw [e, hc, hp] at this
        simp at this
    · rw [h1, h2]
      congr 1
      refine rising_ext hu'.ris hu.ris (fun v => ?_)
      have er : ∀ t, r' t = r t := fun t => uni_roots hu' hu ⟨fun h => ln_swap h, fun h => ln_swap h⟩ t
      rw [hu'.get, hu.get, er, List.any_append, List.any_append, Bool.or_comm]
/-- A qualifier that is a variable becomes a principal or a variable. -/
def fitsT (s : List Bd) (by_ : Tm) : Bool := if isVar by_ then isPrin (becomeT s by_) || isVar (becomeT s by_) else true
theorem Uni.fits {P Q : List Tm} {r : Tm → Tm} {m : List Bd} (h : Uni P Q r m) {t : Tm} (ht : t ∈ P ∨ t ∈ Q) (hq : isVar t = true → isVar (r t) = true ∨ isPrin (r t) = true) : fitsT m t = true := by
  unfold fitsT
  cases hv : isVar t with
  | false => rfl
  | true =>
    simp only [if_true]
    rw [h.become ht, Bool.or_eq_true]
    exact (hq hv).symm
/-- What makes the two one finds them so. -/
theorem unify_finds {n0 n1 : ByteArray} {p q : List Tm} {x y : Tm} {τ : List Bd} (hn : n0.toList = n1.toList) (hτ : (x :: p).map (becomeT τ) = (y :: q).map (becomeT τ)) (hx : fitsT τ x = true) (hy : fitsT τ y = true) :
    (unifyL n0 p n1 q x y).2 = true ∧ ((x :: p).map (becomeT (unifyL n0 p n1 q x y).1)).map (becomeT τ) = (x :: p).map (becomeT τ) := by
  have hlen : p.length = q.length := by have := congrArg List.length hτ; simpa using this
  rcases unifyL_spec n0 n1 p q x y with ⟨h1, k1⟩ | ⟨m, r, h1, _, hl, hu, hq⟩
  · exfalso
    rcases k1 with h | h | ⟨s, u, ha, hb, hne, h⟩ | ⟨t, ht, hv, c, hc, hp, h⟩
    · exact h hn
    · exact h hlen
    · have := ln_sub hτ h
      rw [become_fix τ ha, become_fix τ hb] at this
      exact hne this
    · have e := ln_sub hτ h
      rw [become_fix τ hc] at e
      have hf : fitsT τ t = true := by rcases ht with rfl | rfl <;> assumption
      unfold fitsT at hf
      rw [hv, e, hc, hp] at hf
      simp at hf
  · rw [h1]
    exact ⟨rfl, hu.through hτ⟩
end Go.Proofs.YtnomgmlfagiffaaDoor.T
/- slices.IndexFunc, ContainsFunc and CompareFunc at Term, with function values that may lay memory. -/
set_option linter.unusedVariables false
set_option linter.unusedSimpArgs false
namespace Go.Proofs.YtnomgmlfagiffaaDoor.T
open Go.RowKit Go.Proofs.YtnomgmlfagiffaaDoorW.PrintWords Go.Proofs.YtnomgmlfagiffaaDoorW.PrintLast
theorem rdT {l : List Tm} {j : Nat} (h : j < l.length) : rd_T23 l (j : Int) = l[j] := by
  simp [rd_T23, List.getD_eq_getElem?_getD, List.getElem?_eq_getElem h]
end Go.Proofs.YtnomgmlfagiffaaDoor.T
/- The laws' tests of sameness, plainly. -/
set_option linter.unusedVariables false
set_option linter.unusedSimpArgs false
namespace Go.Proofs.YtnomgmlfagiffaaDoor.T
open Go.RowKit Go.Lib Go.Proofs.YtnomgmlfagiffaaDoorW.PrintWords Go.Proofs.YtnomgmlfagiffaaDoor.Hs
theorem wrap_big (n : Nat) (h : n < 9223372036854775807) : wrap64 ((n : Int) + 1) = ((n + 1 : Nat) : Int) := by
  simp only [wrap64]
  omega
open Classical in
theorem eqT_fields (a b : Tm) : (a.f0 == b.f0 && (a.f1 == b.f1 && (a.f2.toList == b.f2.toList))) = decide (a = b) := by
  have h := eqT_iff a b
  unfold eqT at h
  rw [Bool.eq_iff_iff, decide_eq_true_iff]
  exact h
open Classical in
theorem terms_f (l m : List Tm) (hl : l.length = m.length) (ll : l.length ≤ 9223372036854775807) : ∀ k, l.length + 1 ≤ k → hearsaylaw02_terms.f k l m = some (decide (l = m)) := by
  intro k hk
  unfold hearsaylaw02_terms.f
  rw [if_pos (by omega)]
  suffices h : ∀ (n i k : Nat), l.length = i + n → n + 1 ≤ k → hearsaylaw02_terms.l0 k l m (i : Int) = some (decide (l.drop i = m.drop i)) by
    have := h l.length 0 k (by omega) hk
    simpa using this
  intro n
  induction n with
  | zero =>
    intro i k hi hk
    obtain ⟨k, rfl⟩ : ∃ j, k = j + 1 := ⟨k - 1, by omega⟩
    rw [hearsaylaw02_terms.l0, if_neg (by omega), List.drop_eq_nil_of_le (by omega), List.drop_eq_nil_of_le (by omega)]
    rfl
  | succ n ih =>
    intro i k hi hk
    obtain ⟨k, rfl⟩ : ∃ j, k = j + 1 := ⟨k - 1, by omega⟩
    have h1 : i < l.length := by omega
    have h2 : i < m.length := by omega
    rw [hearsaylaw02_terms.l0, if_pos (by omega), if_pos (by omega), if_pos (by omega), rdT h1, rdT h2, wrap_big i (by omega), ih (i + 1) k (by omega) (by omega)]
    have hiff : (l.drop i = m.drop i) ↔ (l[i] = m[i] ∧ l.drop (i + 1) = m.drop (i + 1)) := by
      rw [List.drop_eq_getElem_cons h1, List.drop_eq_getElem_cons h2]
      exact ⟨fun e => by injection e with a b; exact ⟨a, b⟩, fun ⟨a, b⟩ => by rw [a, b]⟩
    rw [show decide (l.drop i = m.drop i) = decide (l[i] = m[i] ∧ l.drop (i + 1) = m.drop (i + 1)) from decide_eq_decide.2 hiff]
    have e := eqT_fields l[i] m[i]
    have hneg : (!(l[i].f0 == m[i].f0) || (!(l[i].f1 == m[i].f1) || (!(l[i].f2.toList == m[i].f2.toList)))) = !decide (l[i] = m[i]) := by
      rw [← e]
      cases (l[i].f0 == m[i].f0) <;> cases (l[i].f1 == m[i].f1) <;> cases (l[i].f2.toList == m[i].f2.toList) <;> rfl
    rw [hneg]
    by_cases h : l[i] = m[i]
    · rw [show decide (l[i] = m[i]) = true from decide_eq_true h, if_neg (by simp)]
      simp [h]
    · rw [show decide (l[i] = m[i]) = false from decide_eq_false h, if_pos (by simp)]
      simp [h]
open Classical in
theorem same_f (t u : Tm) (nm nn : ByteArray) (l m : List Tm) (ll : l.length ≤ 9223372036854775807) (k : Nat) (hk : l.length + 1 ≤ k) :
    hearsaylaw02_same.f k t.f0 t.f1 t.f2 nm l u.f0 u.f1 u.f2 nn m = some (decide (nm = nn ∧ t = u ∧ l = m)) := by
  unfold hearsaylaw02_same.f
  by_cases hn : nm.toList = nn.toList
  · rw [if_pos hn, eqT_fields]
    by_cases ht : t = u
    · rw [if_pos (decide_eq_true ht)]
      by_cases hl : l.length = m.length
      · rw [terms_f l m hl ll k hk]
        simp [ba_ext hn, ht]
      · unfold hearsaylaw02_terms.f
        rw [if_neg (by omega)]
        have : ¬ l = m := fun e => hl (by rw [e])
        simp [this]
    · rw [if_neg (by simp [ht])]
      simp [ht]
  · rw [if_neg hn]
    have : ¬ nm = nn := fun e => hn (by rw [e])
    simp [this]
end Go.Proofs.YtnomgmlfagiffaaDoor.T
/- The document's Settled answers the map of the binding. -/
set_option linter.unusedVariables false
set_option linter.unusedSimpArgs false
namespace Go.Proofs.YtnomgmlfagiffaaDoor.T
open Go.RowKit Go.Lib Go.Proofs.YtnomgmlfagiffaaDoorW.PrintWords Go.Proofs.YtnomgmlfagiffaaDoor.Hs
theorem putM_len (v : Int) (t : Tm) : ∀ m : List Bd, (putM v t m).length ≤ m.length + 1
  | [] => by simp [putM]
  | c :: r => by
    have := putM_len v t r
    unfold putM
    split
    · simp
    · split
      · simp
      · simp only [List.length_cons]; omega
end Go.Proofs.YtnomgmlfagiffaaDoor.T
/- The length of what Unify answers, plainly. -/
set_option linter.unusedVariables false
set_option linter.unusedSimpArgs false
namespace Go.Proofs.YtnomgmlfagiffaaDoor.T
open Go.RowKit Go.Lib Go.Proofs.YtnomgmlfagiffaaDoorW.PrintWords
theorem unifyL_len (n0 n1 : ByteArray) (p q : List Tm) (x y : Tm) : (unifyL n0 p n1 q x y).1.length ≤ p.length + q.length + 2 := by
  unfold unifyL
  split
  · simp
  · split
    · simp
    · split
      · simp
      · have : ∀ (L : List Tm) (C : Cl) (m : List Bd), (finU L C m).length ≤ m.length + L.length := by
          intro L
          induction L with
          | nil => intro C m; simp [finU]
          | cons t L ih =>
            intro C m
            unfold finU
            refine Nat.le_trans (ih _ _) ?_
            split
            · have := putM_len t.f1 (topF C t).1 m
              simp only [List.length_cons]
              omega
            · simp only [List.length_cons]
              omega
        refine Nat.le_trans (this _ _ _) ?_
        simp
        omega
end Go.Proofs.YtnomgmlfagiffaaDoor.T
/- What a binding says of a variable; a rising binding, plainly. -/
set_option linter.unusedVariables false
set_option linter.unusedSimpArgs false
namespace Go.Proofs.YtnomgmlfagiffaaDoor.T
open Go.RowKit Go.Lib Go.Proofs.YtnomgmlfagiffaaDoorW.PrintWords Go.Proofs.YtnomgmlfagiffaaDoor.Hs
def saysT (s : List Bd) (v : Int) : Tm := (getM s v).getD ⟨3, v, ⟨#[]⟩⟩
theorem says_f (s : List Bd) (v : Int) (ls : s.length < smallN) (k : Nat) (hk : s.length + 1 ≤ k) : hearsaylaw02_says.f k s v = some ((saysT s v).f0, (saysT s v).f1, (saysT s v).f2) := by
  unfold hearsaylaw02_says.f saysT
  rw [look_f s v ls k hk]
  simp only [Option.bind_some, lookR]
  cases getM s v <;> simp
theorem rising_f (m : List Bd) (hm : Rising m) (lm : m.length < smallN) : ∀ k, m.length + 1 ≤ k → hearsaylaw02_rising.f k m = some true := by
  intro k hk
  unfold hearsaylaw02_rising.f
  suffices h : ∀ (n i k : Nat), 1 ≤ i → m.length ≤ i + n → n + 1 ≤ k → hearsaylaw02_rising.l0 k m (i : Int) = some true from h m.length 1 k (Nat.le_refl _) (by omega) hk
  intro n
  induction n with
  | zero =>
    intro i k h1 hi hk
    obtain ⟨k, rfl⟩ : ∃ j, k = j + 1 := ⟨k - 1, by omega⟩
    rw [hearsaylaw02_rising.l0, if_neg (by omega)]
  | succ n ih =>
    intro i k h1 hi hk
    obtain ⟨k, rfl⟩ : ∃ j, k = j + 1 := ⟨k - 1, by omega⟩
    rw [hearsaylaw02_rising.l0]
    by_cases h : (i : Int) < (m.length : Int)
    · obtain ⟨j, rfl⟩ : ∃ j, i = j + 1 := ⟨i - 1, by omega⟩
      have hw : wrap64 (((j + 1 : Nat) : Int) - 1) = ((j : Nat) : Int) := by
        simp only [smallN] at lm
        simp only [wrap64]
        omega
      have hlt : m[j].f0 < m[j + 1].f0 := List.pairwise_iff_getElem.1 hm j (j + 1) (by omega) (by omega) (by omega)
      rw [if_pos h, hw, if_pos (by omega), if_pos (by omega), if_pos (by omega), rd_at44 _ _ (show j < m.length by omega), rd_at44 _ _ (show j + 1 < m.length by omega), if_neg (by omega), wrap_succ (j + 1) (by omega), ih (j + 2) k (by omega) (by omega) (by omega)]
    · rw [if_neg h]
end Go.Proofs.YtnomgmlfagiffaaDoor.T
/- Lengths of what a match answers. -/
set_option linter.unusedVariables false
set_option linter.unusedSimpArgs false
namespace Go.Proofs.YtnomgmlfagiffaaDoor.T
open Go.RowKit Go.Lib Go.Proofs.YtnomgmlfagiffaaDoorW.PrintWords Go.Proofs.YtnomgmlfagiffaaDoor.Hs
theorem bindings_self2 (s : List Bd) (ls : s.length < 3298534883328) : ∀ k, s.length + 1 ≤ k → hearsaylaw02_bindings.f k s s = some true := by
  intro k hk
  unfold hearsaylaw02_bindings.f
  rw [if_pos rfl]
  suffices h : ∀ (n i k : Nat), s.length = i + n → n + 1 ≤ k → hearsaylaw02_bindings.l0 k s s (i : Int) = some true from h s.length 0 k (by omega) hk
  intro n
  induction n with
  | zero =>
    intro i k hi hk
    obtain ⟨k, rfl⟩ : ∃ m, k = m + 1 := ⟨k - 1, by omega⟩
    rw [hearsaylaw02_bindings.l0, if_neg (by omega)]
  | succ n ih =>
    intro i k hi hk
    obtain ⟨k, rfl⟩ : ∃ m, k = m + 1 := ⟨k - 1, by omega⟩
    rw [hearsaylaw02_bindings.l0, if_pos (by omega), if_pos (by omega), if_pos (by omega), if_neg (by simp), show wrap64 ((i : Int) + 1) = ((i + 1 : Nat) : Int) by unfold wrap64; omega]
    exact ih (i + 1) k (by omega) (by omega)
end Go.Proofs.YtnomgmlfagiffaaDoor.T
/- Apply in closed form: the program's and the document's are the same. -/
set_option linter.unusedVariables false
set_option linter.unusedSimpArgs false
namespace Go.Proofs.YtnomgmlfagiffaaDoor.T
open Go.RowKit Go.Lib Go.Proofs.YtnomgmlfagiffaaDoorW.PrintWords
theorem apply_f (s : List Bd) (t : Tm) (nm : ByteArray) (l : List Tm) (ls : s.length < smallN) (ll : l.length < smallN) (k : Nat) (hk : s.length + l.length + 2 ≤ k) :
    term_Apply.f k s t.f0 t.f1 t.f2 nm l = some ((becomeT s t).f0, (becomeT s t).f1, (becomeT s t).f2, nm, l.map (becomeT s)) := by
  unfold term_Apply.f
  rw [become_f s t ls k (by omega)]
  simp only [Option.bind_some]
  suffices h : ∀ (n i k : Nat) (out : List Tm) (a b : Int) (c d : ByteArray), l.length = i + n → out.length = i → s.length + n + 2 ≤ k → term_Apply.l0 k s l (l.length : Int) (i : Int) a b c d out = some (a, b, c, d, out ++ (l.drop i).map (becomeT s)) from by
    have := h l.length 0 k [] (becomeT s t).f0 (becomeT s t).f1 (becomeT s t).f2 nm (by omega) rfl (by omega)
    simpa using this
  intro n
  induction n with
  | zero =>
    intro i k out a b c d hi ho hk
    obtain ⟨k, rfl⟩ : ∃ m, k = m + 1 := ⟨k - 1, by omega⟩
    rw [term_Apply.l0, if_neg (by omega), List.drop_eq_nil_of_le (by omega)]
    simp
  | succ n ih =>
    intro i k out a b c d hi ho hk
    obtain ⟨k, rfl⟩ : ∃ m, k = m + 1 := ⟨k - 1, by omega⟩
    rw [term_Apply.l0, if_pos (by omega), if_pos (by omega), if_pos (by omega), rd_at23 _ _ (by omega), become_f s _ ls k (by omega), wrap_succ i (by omega)]
    simp only [Option.bind_some]
    rw [if_pos (by simp [smallN] at ll; omega), ih (i + 1) k _ a b c d (by omega) (by simp [ho]) (by omega), List.drop_eq_getElem_cons (show i < l.length by omega)]
    simp only [List.map_cons, List.append_assoc, List.cons_append, List.nil_append]
end Go.Proofs.YtnomgmlfagiffaaDoor.T
/- The laws' first call answers as the document fixes it. -/
namespace Go.Proofs.YtnomgmlfagiffaaDoor.T
open Go.RowKit Go.Lib Go.Proofs.YtnomgmlfagiffaaDoorW.PrintWords
theorem first_f : hearsaylaw02_first.f = some true := by
  have e0 : (⟨#[]⟩ : ByteArray).toList = [] := by rw [toList_data]
  have e1 : matchL ⟨#[112]⟩ [(⟨3, 0, ⟨#[]⟩⟩ : Tm)] ⟨#[112]⟩ [⟨1, 5, ⟨#[]⟩⟩] [] ⟨0, 0, ⟨#[]⟩⟩ ⟨0, 0, ⟨#[]⟩⟩ = ([⟨0, ⟨1, 5, ⟨#[]⟩⟩⟩], true) := by
    simp [matchL, stepM, isVar, eqT, getM, putM, startM, e0]
  unfold hearsaylaw02_first.f term_Match.f
  rw [e1, if_pos (by decide)]
  simp [rd_T44, e0]
end Go.Proofs.YtnomgmlfagiffaaDoor.T
/- TermUnifies: the plain law. -/
set_option linter.unusedVariables false
set_option linter.unusedSimpArgs false
namespace Go.Proofs.YtnomgmlfagiffaaDoor.T
open Go.RowKit Go.Lib Go.Proofs.YtnomgmlfagiffaaDoorW.PrintWords Go.Proofs.YtnomgmlfagiffaaDoor.Hs
theorem become_says (s : List Bd) {t : Tm} (h : isVar t = true) : becomeT s t = saysT s t.f1 := by
  unfold becomeT saysT
  rw [h, ← isVar_eq h]
  rfl
theorem fits_f (s : List Bd) (t : Tm) (ls : s.length < smallN) (k : Nat) (hk : s.length + 1 ≤ k) : hearsaylaw02_fits.f k s t.f0 t.f1 t.f2 = some (fitsT s t) := by
  unfold hearsaylaw02_fits.f fitsT
  rw [var_f]
  simp only [Option.bind_some]
  cases hv : isVar t with
  | false => rfl
  | true =>
    simp only [if_true]
    rw [says_f s _ ls k hk, ← become_says s hv]
    simp only [Option.bind_some]
    rw [prin_f]
    simp only [Option.bind_some]
    cases isPrin (becomeT s t) with
    | true => rfl
    | false =>
      simp only [Bool.false_eq_true, if_false]
      rw [var_f]
      rfl
theorem unifies_end (nm nn : ByteArray) (l m : List Tm) (t u : Tm) (ot : okT t = true) (ol : l.all okT = true) (ou : okT u = true) (om : m.all okT = true) (ll : 2 * l.length + 2 * m.length + 20 < smallN) (k : Nat) (hk : l.length + m.length + 3 ≤ k) :
    (term_Unify.f u.f0 u.f1 u.f2 nn m t.f0 t.f1 t.f2 nm l).bind (fun bt => if (bt.2 == (unifyL nm l nn m t u).2) = true then (hearsaylaw02_bindings.f k (unifyL nm l nn m t u).1 bt.1).bind fun z => if z = true then (hearsaylaw02_first.f).bind fun z => some z else some false else some false) = some true := by
  have hU : term_Unify.f u.f0 u.f1 u.f2 nn m t.f0 t.f1 t.f2 nm l = some (unifyL nm l nn m t u) := by
    unfold term_Unify.f
    rw [if_pos (by simp [ot, ou, ol, om]; omega), unify_swap]
  have hlen := unifyL_len nm nn l m t u
  rw [hU]
  simp only [Option.bind_some, BEq.rfl, if_true]
  rw [bindings_self2 _ (by simp only [smallN] at ll; omega) _ (by omega)]
  simp only [Option.bind_some, if_true]
  rw [first_f]
  rfl
open Classical in
theorem unifies_j1 (nm nn : ByteArray) (l m : List Tm) (t u : Tm) (s : List Bd) (ot : okT t = true) (ol : l.all okT = true) (ou : okT u = true) (om : m.all okT = true) (ll : 2 * s.length + 2 * l.length + 2 * m.length + 20 < smallN) (k : Nat) (hk : s.length + 2 * l.length + 2 * m.length + 20 ≤ k) (x : Tm) (X : List Tm)
    (hX : (x :: X) = (t :: l).map (becomeT (unifyL nm l nn m t u).1)) :
    hearsaylaw02_TermUnifies.j1 k s (unifyL nm l nn m t u).1 (unifyL nm l nn m t u).2 false t.f0 t.f1 t.f2 nm l u.f0 u.f1 u.f2 nn m x.f0 x.f1 x.f2 nm X = some true := by
  obtain ⟨k, rfl⟩ : ∃ j, k = j + 3 := ⟨k - 3, by omega⟩
  have lX : X.length = l.length := by have := congrArg List.length hX; simpa using this
  rw [hearsaylaw02_TermUnifies.j1, if_neg (by simp), apply_f s t nm l (by omega) (by omega) _ (by omega)]
  simp only [Option.bind_some]
  rw [apply_f s u nn m (by omega) (by omega) _ (by omega)]
  simp only [Option.bind_some]
  rw [same_f (becomeT s t) (becomeT s u) nm nn _ _ (by simp only [smallN] at ll; simp; omega) _ (by simp; omega)]
  simp only [Option.bind_some]
  have hno : hearsaylaw02_TermUnifies.j2 (k + 2) s (unifyL nm l nn m t u).1 (unifyL nm l nn m t u).2 false t.f0 t.f1 t.f2 nm l u.f0 u.f1 u.f2 nn m x.f0 x.f1 x.f2 nm X (becomeT s t).f0 (becomeT s t).f1 (becomeT s t).f2 nm (l.map (becomeT s)) = some true := by
    rw [hearsaylaw02_TermUnifies.j2, if_neg (by simp)]
    exact unifies_end nm nn l m t u ot ol ou om (by omega) _ (by omega)
  by_cases hs : nm = nn ∧ becomeT s t = becomeT s u ∧ l.map (becomeT s) = m.map (becomeT s)
  · rw [if_pos (decide_eq_true hs), fits_f s t (by omega) _ (by omega)]
    simp only [Option.bind_some]
    cases ft : fitsT s t with
    | false => simp only [Bool.false_eq_true, if_false]; exact hno
    | true =>
      simp only [if_true]
      rw [fits_f s u (by omega) _ (by omega)]
      simp only [Option.bind_some]
      cases fu : fitsT s u with
      | false => exact hno
      | true =>
        obtain ⟨h1, h2⟩ := unify_finds (n0 := nm) (n1 := nn) (p := l) (q := m) (x := t) (y := u) (τ := s) (by rw [hs.1]) (by rw [List.map_cons, List.map_cons, hs.2.1, hs.2.2]) ft fu
        rw [hearsaylaw02_TermUnifies.j2, if_pos rfl, if_pos h1, apply_f s x nm X (by omega) (by omega) _ (by omega)]
        simp only [Option.bind_some]
        rw [← hX, List.map_cons, List.map_cons] at h2
        injection h2 with h3 h4
        rw [h3, h4, same_f _ _ _ _ _ _ (by simp only [smallN] at ll; simp; omega) _ (by simp; omega)]
        simp only [Option.bind_some]
        rw [show (!decide (True ∧ True ∧ True)) = false by simp, hearsaylaw02_TermUnifies.j3, if_neg (by simp)]
        exact unifies_end nm nn l m t u ot ol ou om (by omega) _ (by omega)
  · rw [if_neg (by simp [hs])]
    exact hno
open Classical in
theorem unifies_f (t : Tm) (nm : ByteArray) (l : List Tm) (u : Tm) (nn : ByteArray) (m : List Tm) (s : List Bd) (ot : okT t = true) (ol : l.all okT = true) (ou : okT u = true) (om : m.all okT = true)
    (hs : 2 * s.length + 2 * l.length + 2 * m.length + 20 < smallN) : ∃ k, hearsaylaw02_TermUnifies.f k t.f0 t.f1 t.f2 nm l u.f0 u.f1 u.f2 nn m s = some true := by
  have hlen := unifyL_len nm nn l m t u
  have hU : term_Unify.f t.f0 t.f1 t.f2 nm l u.f0 u.f1 u.f2 nn m = some (unifyL nm l nn m t u) := by
    unfold term_Unify.f
    rw [if_pos (by simp [ot, ou, ol, om]; omega)]
  refine ⟨s.length + 4 * l.length + 4 * m.length + 40, ?_⟩
  unfold hearsaylaw02_TermUnifies.f
  rw [hU]
  simp only [Option.bind_some]
  rw [apply_f _ t nm l (by omega) (by omega) _ (by omega)]
  simp only [Option.bind_some]
  obtain ⟨K, hK⟩ : ∃ j, s.length + 4 * l.length + 4 * m.length + 40 = j + 1 := ⟨_, rfl⟩
  have hj : ∀ b, b = false → hearsaylaw02_TermUnifies.j0 (s.length + 4 * l.length + 4 * m.length + 40) s (unifyL nm l nn m t u).1 (unifyL nm l nn m t u).2 b t.f0 t.f1 t.f2 nm l u.f0 u.f1 u.f2 nn m (becomeT (unifyL nm l nn m t u).1 t).f0 (becomeT (unifyL nm l nn m t u).1 t).f1 (becomeT (unifyL nm l nn m t u).1 t).f2 nm (l.map (becomeT (unifyL nm l nn m t u).1)) = some true := by
    rintro _ rfl
    rw [hK, hearsaylaw02_TermUnifies.j0, if_neg (by simp)]
    have hj1 := fun K (hK : s.length + 2 * l.length + 2 * m.length + 20 ≤ K) => unifies_j1 nm nn l m t u s ot ol ou om hs K hK (becomeT (unifyL nm l nn m t u).1 t) (l.map (becomeT (unifyL nm l nn m t u).1)) (by rw [List.map_cons])
    by_cases h2 : (unifyL nm l nn m t u).2 = true
    · rw [if_pos h2]
      exact hj1 K (by omega)
    · rw [if_neg h2]
      have e : (unifyL nm l nn m t u).1 = [] := by
        rcases unifyL_spec nm nn l m t u with ⟨h, _⟩ | ⟨w, r, h, _⟩
        · rw [h]
        · rw [h] at h2; simp at h2
      rw [show (((unifyL nm l nn m t u).1.length : Int) != 0) = false by rw [e]; rfl]
      exact hj1 K (by omega)
  by_cases h2 : (unifyL nm l nn m t u).2 = true
  · rw [if_pos h2]
    rcases unifyL_spec nm nn l m t u with ⟨h, _⟩ | ⟨w, r, h, hn, hl, hu, hq⟩
    · rw [h] at h2; simp at h2
    · have e1 : (unifyL nm l nn m t u).1 = w := by rw [h]
      have hn' : nm = nn := ba_ext hn
      have hb := hu.both (by simp [hl])
      rw [List.map_cons, List.map_cons] at hb
      injection hb with hb1 hb2
      have htw := hu.twice
      rw [List.map_cons, List.map_cons] at htw
      injection htw with ht1 ht2
      rw [rising_f _ (by rw [e1]; exact hu.ris) (by omega) _ (by omega)]
      simp only [Option.bind_some, if_true]
      rw [apply_f _ u nn m (by omega) (by omega) _ (by omega)]
      simp only [Option.bind_some]
      rw [same_f _ _ _ _ _ _ (by simp only [smallN] at hs; simp; omega) _ (by simp; omega)]
      simp only [Option.bind_some]
      rw [if_pos (decide_eq_true (by rw [e1]; exact ⟨hn', hb1, hb2⟩)), apply_f _ _ nm _ (by omega) (by simp; omega) _ (by simp; omega)]
      simp only [Option.bind_some]
      rw [same_f _ _ _ _ _ _ (by simp only [smallN] at hs; simp; omega) _ (by simp; omega)]
      simp only [Option.bind_some]
      rw [if_pos (decide_eq_true (by rw [e1]; exact ⟨trivial, ht1, ht2⟩)), fits_f _ t (by omega) _ (by omega)]
      simp only [Option.bind_some]
      rw [if_pos (by rw [e1]; exact hu.fits (Or.inl (by simp)) (hq t (Or.inl rfl))), fits_f _ u (by omega) _ (by omega)]
      simp only [Option.bind_some]
      exact hj _ (by rw [e1, hu.fits (Or.inr (by simp)) (hq u (Or.inr rfl))]; rfl)
  · rw [if_neg h2]
    exact hj _ rfl
end Go.Proofs.YtnomgmlfagiffaaDoor.T
