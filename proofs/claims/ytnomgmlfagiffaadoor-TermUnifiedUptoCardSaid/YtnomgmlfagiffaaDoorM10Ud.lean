/- PureUs; PureUf; PureCl; PureS; PureRM; GFv; PureAt; PureUr: texts of this claim, laid together. -/
import Derived.Test.YtnomgmlfagiffaaDoorM9Ud
import Derived.Test.YtnomgmlfagiffaaDoorM8Ud
import Derived.Test.YtnomgmlfagiffaaDoorM0Ud
import Derived.Test.YtnomgmlfagiffaaDoorM1Ud
import Derived.Test.YtnomgmlfagiffaaDoorM2Ud
import Derived.Test.YtnomgmlfagiffaaDoorM4Ud
import Derived.Test.YtnomgmlfagiffaaDoorM3Ud
import Derived.Test.YtnomgmlfagiffaaDoorM6Ud
import Derived.Test.YtnomgmlfagiffaaDoorM5Ud
/- Classes, plainly: what the linked terms stand for; what Unify answers by it. No machine. -/
set_option linter.unusedVariables false
set_option linter.unusedSimpArgs false
namespace Go.Proofs.YtnomgmlfagiffaaDoor.T
open Go.RowKit Go.Lib Go.Proofs.YtnomgmlfagiffaaDoorW.PrintWords Go.Proofs.YtnomgmlfagiffaaDoor.Hs
theorem isVar_eq {t : Tm} (h : isVar t = true) : t = ⟨3, t.f1, ⟨#[]⟩⟩ := by
  unfold isVar at h
  simp only [Bool.and_eq_true, decide_eq_true_eq, beq_iff_eq] at h
  obtain ⟨h0, h1, h2⟩ := h
  cases t
  simp only at h0 h2
  subst h0
  congr 1
  exact ba_ext (by rw [h2, toList_data])
theorem rank_var {t : Tm} (h : isVar t = true) : rankT t = t.f1.toNat + 1 := by unfold rankT; rw [if_pos h]
theorem rank_fix {t : Tm} (h : isVar t = false) : rankT t = 0 := by unfold rankT; rw [h]; rfl
/-- Ranks fall along the links. -/
def Dn (C : Cl) : Prop := ∀ t u, C t = some u → u ≠ t → rankT u < rankT t
theorem dn_nil : Dn (fun _ => none) := fun _ _ h => by cases h
theorem topN_more {C : Cl} (hD : Dn C) : ∀ n t, rankT t < n → ∀ k, rankT t < k → topN k C t = topN n C t := by
  intro n
  induction n with
  | zero => intro t h; omega
  | succ n ih =>
    intro t h k hk
    obtain ⟨k, rfl⟩ : ∃ j, k = j + 1 := ⟨k - 1, by omega⟩
    unfold topN
    cases hc : C t with
    | none => rfl
    | some u =>
      simp only
      cases he : eqT u t with
      | true => rfl
      | false =>
        have hne : u ≠ t := fun e => by rw [(eqT_iff u t).2 e] at he; cases he
        have hr := hD t u hc hne
        simp only [Bool.false_eq_true, if_false]
        exact ih u (by omega) k (by omega)
/-- The term that a term's class stands for. -/
noncomputable def rho (C : Cl) (t : Tm) : Tm := (topF C t).1
theorem rho_none {C : Cl} {t : Tm} (h : C t = none) : rho C t = t := by
  unfold rho topF topN
  rw [h]
theorem rho_self {C : Cl} {t : Tm} (h : C t = some t) : rho C t = t := by
  unfold rho topF topN
  rw [h]
  simp only
  rw [if_pos ((eqT_iff t t).2 rfl)]
theorem rho_step {C : Cl} (hD : Dn C) {t u : Tm} (h : C t = some u) : rho C t = rho C u := by
  by_cases hu : u = t
  · rw [hu]
  · have hr := hD t u h hu
    have he : eqT u t = false := by
      cases e : eqT u t with
      | false => rfl
      | true => exact absurd ((eqT_iff u t).1 e) hu
    show (topN (rankT t + 1) C t).1 = (topN (rankT u + 1) C u).1
    rw [topN_more hD (rankT u + 1) u (by omega) (rankT u + 1) (by omega)]
    have : topN (rankT t + 1) C t = topN (rankT t) C u := by
      rw [topN, h]
      simp only [he, Bool.false_eq_true, if_false]
    rw [this, topN_more hD (rankT u + 1) u (by omega) (rankT t) hr]
theorem rank_ind {P : Tm → Prop} (h : ∀ t, (∀ u, rankT u < rankT t → P u) → P t) : ∀ t, P t := by
  have : ∀ n t, rankT t < n → P t := by
    intro n
    induction n with
    | zero => intro t ht; omega
    | succ n ih => intro t ht; exact h t (fun u hu => ih u (by omega))
  exact fun t => this (rankT t + 1) t (by omega)
def RootC (C : Cl) (t : Tm) : Prop := C t = none ∨ C t = some t
theorem rho_rootC {C : Cl} {t : Tm} (h : RootC C t) : rho C t = t := h.elim rho_none rho_self
theorem rho_root {C : Cl} (hD : Dn C) : ∀ t, RootC C (rho C t) := by
  refine rank_ind (fun t ih => ?_)
  cases hc : C t with
  | none => rw [rho_none hc]; exact Or.inl hc
  | some u =>
    by_cases hu : u = t
    · subst hu; rw [rho_self hc]; exact Or.inr hc
    · rw [rho_step hD hc]; exact ih u (hD t u hc hu)
theorem rho_idem {C : Cl} (hD : Dn C) (t : Tm) : rho C (rho C t) = rho C t := rho_rootC (rho_root hD t)
theorem rho_rank {C : Cl} (hD : Dn C) : ∀ t, rankT (rho C t) ≤ rankT t ∧ (rho C t ≠ t → rankT (rho C t) < rankT t) := by
  refine rank_ind (fun t ih => ?_)
  cases hc : C t with
  | none => rw [rho_none hc]; exact ⟨Nat.le_refl _, fun h => absurd rfl h⟩
  | some u =>
    by_cases hu : u = t
    · subst hu; rw [rho_self hc]; exact ⟨Nat.le_refl _, fun h => absurd rfl h⟩
    · have hr := hD t u hc hu
      have h1 := (ih u hr).1
      rw [rho_step hD hc]
      exact ⟨by omega, fun _ => by omega⟩
theorem set_same (C : Cl) (z w : Tm) : C.set z w z = some w := by unfold Cl.set; rw [if_pos rfl]
theorem set_other {C : Cl} {z w t : Tm} (h : t ≠ z) : C.set z w t = C t := by unfold Cl.set; rw [if_neg h]
theorem set_dn {C : Cl} (hD : Dn C) {z w : Tm} (h : w = z ∨ rankT w < rankT z) : Dn (C.set z w) := by
  intro t u hc hne
  by_cases e : t = z
  · subst e
    rw [set_same] at hc
    injection hc with hc
    subst hc
    exact h.elim (fun h => absurd h hne) id
  · rw [set_other e] at hc
    exact hD t u hc hne
/-- A link that the root of itself bears changes nothing. -/
theorem rho_set_self {C : Cl} (hD : Dn C) {z : Tm} (hz : C z = none) : ∀ t, rho (C.set z z) t = rho C t := by
  have hD' : Dn (C.set z z) := set_dn hD (Or.inl rfl)
  refine rank_ind (fun t ih => ?_)
  by_cases e : t = z
  · subst e; rw [rho_self (set_same C t t), rho_none hz]
  · cases hc : C t with
    | none => rw [rho_none hc, rho_none ((set_other e).trans hc)]
    | some u =>
      by_cases hu : u = t
      · subst hu; rw [rho_self hc, rho_self ((set_other e).trans hc)]
      · rw [rho_step hD hc, rho_step hD' ((set_other e).trans hc)]
        exact ih u (hD t u hc hu)
open Classical in
/-- A new link between two roots. -/
theorem rho_link {C : Cl} (hD : Dn C) {z w : Tm} (hz : RootC C z) (hw : RootC C w) (hr : rankT w < rankT z) : ∀ t, rho (C.set z w) t = if rho C t = z then w else rho C t := by
  have hD' : Dn (C.set z w) := set_dn hD (Or.inr hr)
  have hwz : w ≠ z := fun e => by rw [e] at hr; omega
  have hw' : rho (C.set z w) w = w := rho_rootC (by unfold RootC; rw [set_other hwz]; exact hw)
  refine rank_ind (fun t ih => ?_)
  by_cases e : t = z
  · subst e
    rw [rho_step hD' (set_same C t w), hw', rho_rootC hz, if_pos rfl]
  · cases hc : C t with
    | none => rw [rho_none hc, rho_none ((set_other e).trans hc), if_neg e]
    | some u =>
      by_cases hu : u = t
      · subst hu; rw [rho_self hc, rho_self ((set_other e).trans hc), if_neg e]
      · rw [rho_step hD hc, rho_step hD' ((set_other e).trans hc)]
        exact ih u (hD t u hc hu)
theorem topN_map (C : Cl) : ∀ k t, (topN k C t).2 = C ∨ ∃ z, C z = none ∧ (topN k C t).2 = C.set z z := by
  intro k
  induction k with
  | zero => intro t; exact Or.inl rfl
  | succ k ih =>
    intro t
    unfold topN
    cases hc : C t with
    | none => exact Or.inr ⟨t, hc, rfl⟩
    | some u =>
      simp only
      cases he : eqT u t with
      | true => exact Or.inl rfl
      | false => simp only [Bool.false_eq_true, if_false]; exact ih u
theorem topF_same {C : Cl} (hD : Dn C) (t : Tm) : Dn (topF C t).2 ∧ ∀ s, rho (topF C t).2 s = rho C s := by
  rcases topN_map C (rankT t + 1) t with h | ⟨z, hz, h⟩
  · unfold topF; rw [h]; exact ⟨hD, fun _ => rfl⟩
  · unfold topF; rw [h]; exact ⟨set_dn hD (Or.inl rfl), rho_set_self hD hz⟩
theorem root_of {C : Cl} (hD : Dn C) {t : Tm} (h : rho C t = t) : RootC C t := by
  have := rho_root hD t
  rw [h] at this
  exact this
open Classical in
theorem link_true {C C' : Cl} (hD : Dn C) {a b : Tm} (h : linkF C a b = (true, C')) : Dn C' ∧ (((∀ s, rho C' s = rho C s) ∧ rho C a = rho C b) ∨ ∃ z w, z ≠ w ∧ ((z = rho C a ∧ w = rho C b) ∨ (z = rho C b ∧ w = rho C a)) ∧ ∀ s, rho C' s = if rho C s = z then w else rho C s) := by
  obtain ⟨hD1, h1⟩ := topF_same hD a
  obtain ⟨hD2, h2⟩ := topF_same hD1 b
  have hx : (topF C a).1 = rho C a := rfl
  have hy : (topF (topF C a).2 b).1 = rho C b := (h1 b)
  have hs : ∀ s, rho (topF (topF C a).2 b).2 s = rho C s := fun s => (h2 s).trans (h1 s)
  unfold linkF at h
  rw [hx, hy] at h
  generalize (topF (topF C a).2 b).2 = C2 at *
  have rx : RootC C2 (rho C a) := root_of hD2 (by rw [hs]; exact rho_idem hD a)
  have ry : RootC C2 (rho C b) := root_of hD2 (by rw [hs]; exact rho_idem hD b)
  have key : ∀ z w, RootC C2 z → RootC C2 w → rankT w < rankT z → Dn (C2.set z w) ∧ ∀ s, rho (C2.set z w) s = if rho C s = z then w else rho C s := fun z w hz hw hr =>
    ⟨set_dn hD2 (Or.inr hr), fun s => by rw [rho_link hD2 hz hw hr s, hs]⟩
  generalize rho C a = x at *
  generalize rho C b = y at *
  unfold linkR at h
  cases he : eqT x y with
  | true =>
    rw [if_pos he] at h
    injection h with _ h
    subst h
    exact ⟨hD2, Or.inl ⟨hs, (eqT_iff x y).1 he⟩⟩
  | false =>
    have hne : x ≠ y := fun e => by rw [(eqT_iff x y).2 e] at he; cases he
    rw [he] at h
    simp only [Bool.false_eq_true, if_false] at h
    cases hvx : isVar x with
    | false =>
      cases hvy : isVar y with
      | false => rw [hvx, hvy] at h; simp at h
      | true =>
        rw [hvx, hvy] at h
        simp at h
        subst h
        obtain ⟨k1, k2⟩ := key y x ry rx (by rw [rank_fix hvx, rank_var hvy]; omega)
        exact ⟨k1, Or.inr ⟨y, x, fun e => hne e.symm, Or.inr ⟨rfl, rfl⟩, k2⟩⟩
    | true =>
      cases hvy : isVar y with
      | false =>
        rw [hvx, hvy] at h
        simp at h
        subst h
        obtain ⟨k1, k2⟩ := key x y rx ry (by rw [rank_fix hvy, rank_var hvx]; omega)
        exact ⟨k1, Or.inr ⟨x, y, hne, Or.inl ⟨rfl, rfl⟩, k2⟩⟩
      | true =>
        rw [hvx, hvy] at h
        have px := isVar_parts hvx
        have py := isVar_parts hvy
        have hn : x.f1 ≠ y.f1 := fun e => hne (by rw [isVar_eq hvx, isVar_eq hvy, e])
        by_cases hl : x.f1 < y.f1
        · simp [hl] at h
          subst h
          obtain ⟨k1, k2⟩ := key y x ry rx (by rw [rank_var hvx, rank_var hvy]; omega)
          exact ⟨k1, Or.inr ⟨y, x, fun e => hne e.symm, Or.inr ⟨rfl, rfl⟩, k2⟩⟩
        · simp [hl] at h
          subst h
          obtain ⟨k1, k2⟩ := key x y rx ry (by rw [rank_var hvx, rank_var hvy]; omega)
          exact ⟨k1, Or.inr ⟨x, y, hne, Or.inl ⟨rfl, rfl⟩, k2⟩⟩
theorem link_false {C : Cl} (hD : Dn C) {a b : Tm} (h : (linkF C a b).1 = false) : isVar (rho C a) = false ∧ isVar (rho C b) = false ∧ rho C a ≠ rho C b := by
  obtain ⟨hD1, h1⟩ := topF_same hD a
  have hx : (topF C a).1 = rho C a := rfl
  have hy : (topF (topF C a).2 b).1 = rho C b := (h1 b)
  unfold linkF at h
  rw [hx, hy] at h
  generalize rho C a = x at *
  generalize rho C b = y at *
  unfold linkR at h
  cases he : eqT x y with
  | true => rw [if_pos he] at h; cases h
  | false =>
    have hne : x ≠ y := fun e => by rw [(eqT_iff x y).2 e] at he; cases he
    rw [he] at h
    simp only [Bool.false_eq_true, if_false] at h
    cases hvx : isVar x with
    | false =>
      cases hvy : isVar y with
      | false => exact ⟨rfl, rfl, hne⟩
      | true => rw [hvx, hvy] at h; simp at h
    | true =>
      cases hvy : isVar y with
      | false => rw [hvx, hvy] at h; simp at h
      | true => rw [hvx, hvy] at h; by_cases hl : x.f1 < y.f1 <;> simp [hl] at h
/-- What is linked, step by step. -/
inductive Ln (R : Tm → Tm → Prop) : Tm → Tm → Prop
  | rel {t u : Tm} (h : R t u) : Ln R t u
  | refl (t : Tm) : Ln R t t
  | symm {t u : Tm} (h : Ln R t u) : Ln R u t
  | trans {t u v : Tm} (h : Ln R t u) (h2 : Ln R u v) : Ln R t v
theorem Ln.mono {R S : Tm → Tm → Prop} (hs : ∀ t u, R t u → Ln S t u) {t u : Tm} (h : Ln R t u) : Ln S t u := by
  induction h with
  | rel h => exact hs _ _ h
  | refl t => exact .refl t
  | symm _ ih => exact .symm ih
  | trans _ _ i1 i2 => exact .trans i1 i2
theorem Ln.by_ {R : Tm → Tm → Prop} {f : Tm → Tm} (hs : ∀ t u, R t u → f t = f u) {t u : Tm} (h : Ln R t u) : f t = f u := by
  induction h with
  | rel h => exact hs _ _ h
  | refl t => rfl
  | symm _ ih => exact ih.symm
  | trans _ _ i1 i2 => exact i1.trans i2
theorem link_rel {C C' : Cl} {R : Tm → Tm → Prop} (hD : Dn C) (hR : ∀ s u, rho C s = rho C u ↔ Ln R s u) {a b : Tm} (h : linkF C a b = (true, C')) : Dn C' ∧ ∀ s u, rho C' s = rho C' u ↔ Ln (fun t u => R t u ∨ (t = a ∧ u = b)) s u := by
  classical
  obtain ⟨hD', hc⟩ := link_true hD h
  refine ⟨hD', fun s u => ⟨fun e => ?_, fun e => e.by_ (f := rho C') ?_⟩⟩
  · have hm : ∀ {t v}, Ln R t v → Ln (fun t u => R t u ∨ (t = a ∧ u = b)) t v := fun h => h.mono (fun t u h => .rel (Or.inl h))
    have hab : Ln (fun t u => R t u ∨ (t = a ∧ u = b)) a b := .rel (Or.inr ⟨rfl, rfl⟩)
    have ho : ∀ t, Ln R t (rho C t) := fun t => (hR t (rho C t)).1 (rho_idem hD t).symm
    have hn : ∀ t, Ln (fun t u => R t u ∨ (t = a ∧ u = b)) t (rho C' t) := by
      intro t
      rcases hc with ⟨h1, _⟩ | ⟨z, w, hzw, hp, h1⟩
      · rw [h1]; exact hm (ho t)
      · rw [h1]
        by_cases ez : rho C t = z
        · rw [if_pos ez]
          have h2 := hm (ho t)
          rw [ez] at h2
          refine h2.trans ?_
          rcases hp with ⟨rfl, rfl⟩ | ⟨rfl, rfl⟩
          · exact (hm (ho a)).symm.trans (hab.trans (hm (ho b)))
          · exact (hm (ho b)).symm.trans (hab.symm.trans (hm (ho a)))
        · rw [if_neg ez]; exact hm (ho t)
    have h3 := hn s
    rw [e] at h3
    exact h3.trans (hn u).symm
  · have hf : ∀ t v, rho C t = rho C v → rho C' t = rho C' v := fun t v e => by
      rcases hc with ⟨h1, _⟩ | ⟨z, w, hzw, hp, h1⟩
      · rw [h1, h1, e]
      · rw [h1, h1, e]
    rintro t v (hr | ⟨rfl, rfl⟩)
    · exact hf t v ((hR t v).2 (.rel hr))
    · rcases hc with ⟨h1, h2⟩ | ⟨z, w, hzw, hp, h1⟩
      · rw [h1, h1, h2]
      · rw [h1, h1]
        rcases hp with ⟨rfl, rfl⟩ | ⟨rfl, rfl⟩
        · rw [if_pos rfl, if_neg (fun e => hzw e.symm)]
        · rw [if_pos rfl, if_neg (fun e => hzw e.symm)]
theorem ln_zip {R : Tm → Tm → Prop} {a b : Tm} {P Q : List Tm} {s u : Tm} : Ln (fun t u => (R t u ∨ (t = a ∧ u = b)) ∨ (t, u) ∈ P.zip Q) s u ↔ Ln (fun t u => R t u ∨ (t, u) ∈ (a :: P).zip (b :: Q)) s u := by
  have : (fun t u => (R t u ∨ (t = a ∧ u = b)) ∨ (t, u) ∈ P.zip Q) = (fun t u => R t u ∨ (t, u) ∈ (a :: P).zip (b :: Q)) := by
    funext t u
    apply propext
    rw [List.zip_cons_cons, List.mem_cons, Prod.mk.injEq, or_assoc]
  rw [this]
theorem linkAll_rel : ∀ (P Q : List Tm) (C : Cl) (R : Tm → Tm → Prop), P.length = Q.length → Dn C → (∀ s u, rho C s = rho C u ↔ Ln R s u) →
    (∀ C', linkAll P Q C = some C' → Dn C' ∧ ∀ s u, rho C' s = rho C' u ↔ Ln (fun t u => R t u ∨ (t, u) ∈ P.zip Q) s u) ∧
    (linkAll P Q C = none → ∃ s u, isVar s = false ∧ isVar u = false ∧ s ≠ u ∧ Ln (fun t u => R t u ∨ (t, u) ∈ P.zip Q) s u)
  | [], _, C, R, _, hD, hR => by
    refine ⟨fun C' h => ?_, fun h => by simp [linkAll] at h⟩
    simp only [linkAll, Option.some.injEq] at h
    subst h
    refine ⟨hD, fun s u => (hR s u).trans ?_⟩
    simp
  | _ :: _, [], _, _, h, _, _ => by simp at h
  | a :: P, b :: Q, C, R, hl, hD, hR => by
    cases hk : linkF C a b with
    | mk ok C1 =>
      cases ok with
      | false =>
        refine ⟨fun C' h => ?_, fun _ => ?_⟩
        · unfold linkAll at h
          rw [hk] at h
          simp at h
        · obtain ⟨h1, h2, h3⟩ := link_false hD (a := a) (b := b) (by rw [hk])
          refine ⟨_, _, h1, h2, h3, ?_⟩
          have ho : ∀ t, Ln R t (rho C t) := fun t => (hR t (rho C t)).1 (rho_idem hD t).symm
          have hm : ∀ {t v}, Ln R t v → Ln (fun t u => R t u ∨ (t, u) ∈ (a :: P).zip (b :: Q)) t v := fun h => h.mono (fun t u h => .rel (Or.inl h))
          exact (hm (ho a)).symm.trans (Ln.trans (.rel (Or.inr (by simp))) (hm (ho b)))
      | true =>
        obtain ⟨hD1, h1⟩ := link_rel hD hR hk
        obtain ⟨i1, i2⟩ := linkAll_rel P Q C1 _ (by simpa using hl) hD1 h1
        have e : linkAll (a :: P) (b :: Q) C = linkAll P Q C1 := by
          rw [linkAll, hk]
          simp
        rw [e]
        refine ⟨fun C' h => ?_, fun h => ?_⟩
        · obtain ⟨k1, k2⟩ := i1 C' h
          exact ⟨k1, fun s u => (k2 s u).trans ln_zip⟩
        · obtain ⟨s, u, k1, k2, k3, k4⟩ := i2 h
          exact ⟨s, u, k1, k2, k3, ln_zip.1 k4⟩
theorem byAll_rel : ∀ (L : List Tm) (C : Cl), Dn C →
    (∀ C', byAll L C = some C' → Dn C' ∧ (∀ s, rho C' s = rho C s) ∧ ∀ t ∈ L, isVar t = true → isVar (rho C t) = true ∨ isPrin (rho C t) = true) ∧
    (byAll L C = none → ∃ t ∈ L, isVar t = true ∧ isVar (rho C t) = false ∧ isPrin (rho C t) = false)
  | [], C, hD => by
    refine ⟨fun C' h => ?_, fun h => by simp [byAll] at h⟩
    simp only [byAll, Option.some.injEq] at h
    subst h
    exact ⟨hD, fun _ => rfl, fun t ht => by simp at ht⟩
  | t :: L, C, hD => by
    obtain ⟨hD1, h1⟩ := topF_same hD t
    obtain ⟨i1, i2⟩ := byAll_rel L (topF C t).2 hD1
    have hx : (topF C t).1 = rho C t := rfl
    unfold byAll
    rw [hx]
    cases hb : (isVar t && (!isVar (rho C t) && !isPrin (rho C t))) with
    | true =>
      rw [if_pos rfl]
      simp only [Bool.and_eq_true, Bool.not_eq_true'] at hb
      exact ⟨fun C' h => (by cases h), fun _ => ⟨t, by simp, hb.1, hb.2.1, hb.2.2⟩⟩
    | false =>
      rw [if_neg (by simp)]
      refine ⟨fun C' h => ?_, fun h => ?_⟩
      · obtain ⟨k1, k2, k3⟩ := i1 C' h
        refine ⟨k1, fun s => (k2 s).trans (h1 s), fun v hv hvv => ?_⟩
        rcases List.mem_cons.1 hv with rfl | hv
        · rw [hvv] at hb
          cases h4 : isVar (rho C v) with
          | true => exact Or.inl rfl
          | false =>
            cases h5 : isPrin (rho C v) with
            | true => exact Or.inr rfl
            | false => rw [h4, h5] at hb; simp at hb
        · have := k3 v hv hvv
          rw [h1] at this
          exact this
      · obtain ⟨v, hv, h2, h3, h4⟩ := i2 h
        rw [h1] at h3 h4
        exact ⟨v, by simp [hv], h2, h3, h4⟩
theorem finU_get (r : Tm → Tm) (v : Int) : ∀ (L : List Tm) (C : Cl) (m : List Bd), Dn C → (∀ s, rho C s = r s) → Rising m →
    Rising (finU L C m) ∧ getM (finU L C m) v = if ((L.any fun t => isVar t && (t.f1 == v)) && !eqT (r ⟨3, v, ⟨#[]⟩⟩) ⟨3, v, ⟨#[]⟩⟩) = true then some (r ⟨3, v, ⟨#[]⟩⟩) else getM m v
  | [], C, m, _, _, hm => ⟨hm, by simp [finU]⟩
  | t :: L, C, m, hD, hr, hm => by
    obtain ⟨hD1, h1⟩ := topF_same hD t
    have hx : (topF C t).1 = r t := (hr t)
    unfold finU
    rw [hx]
    by_cases hb : (isVar t && !eqT (r t) t) = true
    · rw [if_pos hb]
      obtain ⟨k1, k2⟩ := finU_get r v L (topF C t).2 (putM t.f1 (r t) m) hD1 (fun s => (h1 s).trans (hr s)) (putM_rising hm)
      refine ⟨k1, ?_⟩
      rw [k2, getM_put v hm, List.any_cons]
      simp only [Bool.and_eq_true, Bool.not_eq_true'] at hb
      have ht := isVar_eq hb.1
      by_cases hv : t.f1 = v
      · subst hv
        rw [← ht, hb.1, hb.2]
        simp
      · have : (t.f1 == v) = false := by simpa using hv
        rw [this, if_neg hv]
        simp
    · rw [if_neg hb]
      obtain ⟨k1, k2⟩ := finU_get r v L (topF C t).2 m hD1 (fun s => (h1 s).trans (hr s)) hm
      refine ⟨k1, ?_⟩
      rw [k2, List.any_cons]
      by_cases hv : isVar t = true ∧ t.f1 = v
      · obtain ⟨h2, rfl⟩ := hv
        have ht := isVar_eq h2
        have he : eqT (r t) t = true := by
          cases e : eqT (r t) t with
          | true => rfl
          | false => rw [h2, e] at hb; simp at hb
        rw [← ht, he]
        simp
      · have : (isVar t && (t.f1 == v)) = false := by
          cases h2 : isVar t with
          | false => rfl
          | true => simp only [Bool.true_and, beq_eq_false_iff_ne]; exact fun e => hv ⟨h2, e⟩
        rw [this]
        simp
theorem unify_none' {n0 n1 : ByteArray} {p q : List Tm} {x y : Tm} (hn : n0.toList = n1.toList) (hl : p.length = q.length) (h : linkAll (x :: p) (y :: q) (fun _ => none) = none) : unifyL n0 p n1 q x y = ([], false) := by
  unfold unifyL
  rw [if_neg (fun h => h.elim (fun h => h hn) (fun h => h hl)), h]
theorem unify_by' {n0 n1 : ByteArray} {p q : List Tm} {x y : Tm} {C : Cl} (hn : n0.toList = n1.toList) (hl : p.length = q.length) (h : linkAll (x :: p) (y :: q) (fun _ => none) = some C) (hb : byAll [x, y] C = none) : unifyL n0 p n1 q x y = ([], false) := by
  unfold unifyL
  rw [if_neg (fun h => h.elim (fun h => h hn) (fun h => h hl)), h]
  simp only
  rw [hb]
theorem unify_some' {n0 n1 : ByteArray} {p q : List Tm} {x y : Tm} {C C' : Cl} (hn : n0.toList = n1.toList) (hl : p.length = q.length) (h : linkAll (x :: p) (y :: q) (fun _ => none) = some C) (hb : byAll [x, y] C = some C') : unifyL n0 p n1 q x y = (finU ((x :: p) ++ (y :: q)) C' [], true) := by
  unfold unifyL
  rw [if_neg (fun h => h.elim (fun h => h hn) (fun h => h hl)), h]
  simp only
  rw [hb]
/-- Unify's answer, by what is linked. -/
structure Uni (P Q : List Tm) (r : Tm → Tm) (m : List Bd) : Prop where
  same : ∀ s u, r s = r u ↔ Ln (fun t u => (t, u) ∈ P.zip Q) s u
  idem : ∀ s, r (r s) = r s
  rank : ∀ s, rankT (r s) ≤ rankT s ∧ (r s ≠ s → rankT (r s) < rankT s)
  ris : Rising m
  get : ∀ v, getM m v = if (((P ++ Q).any fun t => isVar t && (t.f1 == v)) && !eqT (r ⟨3, v, ⟨#[]⟩⟩) ⟨3, v, ⟨#[]⟩⟩) = true then some (r ⟨3, v, ⟨#[]⟩⟩) else none
theorem Uni.fix {P Q : List Tm} {r : Tm → Tm} {m : List Bd} (h : Uni P Q r m) {t : Tm} (ht : isVar t = false) : r t = t := by
  by_cases e : r t = t
  · exact e
  · have := (h.rank t).2 e
    rw [rank_fix ht] at this
    omega
theorem unifyL_spec (n0 n1 : ByteArray) (p q : List Tm) (x y : Tm) :
    (unifyL n0 p n1 q x y = ([], false) ∧ (n0.toList ≠ n1.toList ∨ p.length ≠ q.length ∨
      (∃ s u, isVar s = false ∧ isVar u = false ∧ s ≠ u ∧ Ln (fun t u => (t, u) ∈ (x :: p).zip (y :: q)) s u) ∨
      (∃ t, (t = x ∨ t = y) ∧ isVar t = true ∧ ∃ c, isVar c = false ∧ isPrin c = false ∧ Ln (fun t u => (t, u) ∈ (x :: p).zip (y :: q)) t c))) ∨
    (∃ m r, unifyL n0 p n1 q x y = (m, true) ∧ n0.toList = n1.toList ∧ p.length = q.length ∧ Uni (x :: p) (y :: q) r m ∧ ∀ t, (t = x ∨ t = y) → isVar t = true → isVar (r t) = true ∨ isPrin (r t) = true) := by
  by_cases hn : n0.toList = n1.toList
  · by_cases hl : p.length = q.length
    · have e0 : (fun t u => (False ∨ (t, u) ∈ (x :: p).zip (y :: q))) = fun t u => (t, u) ∈ (x :: p).zip (y :: q) := by funext t u; simp
      obtain ⟨i1, i2⟩ := linkAll_rel (x :: p) (y :: q) (fun _ => none) (fun _ _ => False) (by simp [hl]) dn_nil (fun s u => by
        rw [rho_none rfl, rho_none rfl]
        refine ⟨fun e => (by rw [e]; exact .refl u), fun h => h.by_ (f := id) (fun _ _ h => h.elim)⟩)
      rw [e0] at i1 i2
      cases hk : linkAll (x :: p) (y :: q) (fun _ => none) with
      | none => exact Or.inl ⟨unify_none' hn hl hk, Or.inr (Or.inr (Or.inl (i2 hk)))⟩
      | some C =>
        obtain ⟨hD, hs⟩ := i1 C hk
        obtain ⟨j1, j2⟩ := byAll_rel [x, y] C hD
        cases hb : byAll [x, y] C with
        | none =>
          obtain ⟨t, ht, h1, h2, h3⟩ := j2 hb
          refine Or.inl ⟨unify_by' hn hl hk hb, Or.inr (Or.inr (Or.inr ⟨t, by simpa using ht, h1, rho C t, h2, h3, (hs _ _).1 (rho_idem hD t).symm⟩))⟩
        | some C1 =>
          obtain ⟨hD1, h1, h2⟩ := j1 C1 hb
          refine Or.inr ⟨_, rho C, unify_some' hn hl hk hb, hn, hl, ⟨hs, rho_idem hD, rho_rank hD, ?_, fun v => ?_⟩, fun t ht hv => h2 t (by simpa using ht) hv⟩
          · exact (finU_get (rho C) 0 _ C1 [] hD1 h1 List.Pairwise.nil).1
          · exact (finU_get (rho C) v _ C1 [] hD1 h1 List.Pairwise.nil).2
    · refine Or.inl ⟨?_, Or.inr (Or.inl hl)⟩
      unfold unifyL
      rw [if_pos (Or.inr hl)]
  · refine Or.inl ⟨?_, Or.inl hn⟩
    unfold unifyL
    rw [if_pos (Or.inl hn)]
theorem rising_ext {m n : List Bd} (hm : Rising m) (hn : Rising n) (h : ∀ v, getM m v = getM n v) : m = n := by
  refine rising_eq hm hn (fun b => ⟨fun hb => ?_, fun hb => ?_⟩)
  · have := rising_getM hm hb
    rw [h] at this
    exact getM_mem this
  · have := rising_getM hn hb
    rw [← h] at this
    exact getM_mem this
theorem zip_both {P Q : List Tm} {t u : Tm} (h : (t, u) ∈ P.zip Q) : t ∈ P ∧ u ∈ Q := ⟨(List.of_mem_zip h).1, (List.of_mem_zip h).2⟩
end Go.Proofs.YtnomgmlfagiffaaDoor.T
/- What Unify answers, plainly: it makes the two one, twice is once, either way round; whatever makes the two one goes through it. -/
set_option linter.unusedVariables false
set_option linter.unusedSimpArgs false
namespace Go.Proofs.YtnomgmlfagiffaaDoor.T
open Go.RowKit Go.Lib Go.Proofs.YtnomgmlfagiffaaDoorW.PrintWords Go.Proofs.YtnomgmlfagiffaaDoor.Hs
/-- Two fixed terms of one class are one. -/
theorem Uni.one {P Q : List Tm} {r : Tm → Tm} {m : List Bd} (h : Uni P Q r m) {s u : Tm} (hs : isVar s = false) (hu : isVar u = false) (hl : Ln (fun t u => (t, u) ∈ P.zip Q) s u) : s = u := by
  have := (h.same s u).2 hl
  rwa [h.fix hs, h.fix hu] at this
end Go.Proofs.YtnomgmlfagiffaaDoor.T
/- The document's classes, plainly: what Class, fixed and stands answer. -/
set_option linter.unusedVariables false
set_option linter.unusedSimpArgs false
namespace Go.Proofs.YtnomgmlfagiffaaDoor.T
open Go.RowKit Go.Lib Go.Proofs.YtnomgmlfagiffaaDoorW.PrintWords Go.Proofs.YtnomgmlfagiffaaDoor.Hs
open Classical in
noncomputable def pushT (l : List Tm) (t : Tm) : List Tm := if t ∈ l then l else l ++ [t]
open Classical in
noncomputable def clsB (s : Tm) (l : List Tm) (a b : Tm) : List Tm := if b = s then pushT l a else l
open Classical in
noncomputable def clsA (s : Tm) (l : List Tm) (a b : Tm) : List Tm := if a = s then pushT l b else l
noncomputable def clsIn (s : Tm) : List Tm → List Tm → List Tm → List Tm
  | [], _, l => l
  | _ :: _, [], l => l
  | a :: x, b :: y, l => clsIn s x y (clsB s (clsA s l a b) a b)
open Classical in
theorem holds_f (l : List Tm) (t : Tm) (ll : l.length < smallN) : ∀ k, l.length + 1 ≤ k → hearsayref02_holds.f k l t.f0 t.f1 t.f2 = some (decide (t ∈ l)) := by
  intro k hk
  unfold hearsayref02_holds.f
  suffices h : ∀ (n i k : Nat), l.length = i + n → n + 1 ≤ k → hearsayref02_holds.l0 k l (i : Int) t.f0 t.f1 t.f2 = some (decide (t ∈ l.drop i)) by
    have := h l.length 0 k (by omega) hk
    simpa using this
  intro n
  induction n with
  | zero =>
    intro i k hi hk
    obtain ⟨k, rfl⟩ : ∃ j, k = j + 1 := ⟨k - 1, by omega⟩
    rw [hearsayref02_holds.l0, if_neg (by omega), List.drop_eq_nil_of_le (by omega)]
    simp
  | succ n ih =>
    intro i k hi hk
    obtain ⟨k, rfl⟩ : ∃ j, k = j + 1 := ⟨k - 1, by omega⟩
    have h1 : i < l.length := by omega
    rw [hearsayref02_holds.l0, if_pos (by omega), if_pos (by omega), rd_at23 _ _ h1, eqT_fields, wrap_succ i (by omega), ih (i + 1) k (by omega) (by omega), List.drop_eq_getElem_cons h1]
    by_cases h : l[i] = t
    · rw [if_pos (decide_eq_true h)]; simp [h]
    · rw [if_neg (by simp [h])]
      have h' : ¬ t = l[i] := fun e => h e.symm
      congr 1
      exact decide_eq_decide.2 ⟨fun hm => List.mem_cons_of_mem _ hm, fun hm => (List.mem_cons.1 hm).resolve_left h'⟩
theorem pushT_len (l : List Tm) (t : Tm) : (pushT l t).length ≤ l.length + 1 := by
  unfold pushT; split <;> simp
theorem clsA_len (s : Tm) (l : List Tm) (a b : Tm) : (clsA s l a b).length ≤ l.length + 1 := by
  unfold clsA; split
  · exact pushT_len _ _
  · omega
theorem clsB_len (s : Tm) (l : List Tm) (a b : Tm) : (clsB s l a b).length ≤ l.length + 1 := by
  unfold clsB; split
  · exact pushT_len _ _
  · omega
theorem pushT_pre (l : List Tm) (t : Tm) : l <+: pushT l t := by
  unfold pushT; split
  · exact List.prefix_refl _
  · exact List.prefix_append _ _
theorem clsA_pre (s : Tm) (l : List Tm) (a b : Tm) : l <+: clsA s l a b := by
  unfold clsA; split
  · exact pushT_pre _ _
  · exact List.prefix_refl _
theorem clsB_pre (s : Tm) (l : List Tm) (a b : Tm) : l <+: clsB s l a b := by
  unfold clsB; split
  · exact pushT_pre _ _
  · exact List.prefix_refl _
theorem pre_get {l m : List Tm} (h : l <+: m) {j : Nat} (hj : j < l.length) : ∃ hm : j < m.length, m[j] = l[j] := by
  obtain ⟨r, rfl⟩ := h
  exact ⟨by simp; omega, by rw [List.getElem_append_left hj]⟩
open Classical in
/-- The second half of a pair's round. -/
theorem class_b (k : Nat) (x y l : List Tm) (i j : Nat) (hi : i < x.length) (hy : i < y.length) (hj : j < l.length) (ll : l.length + 1 < smallN) (hk : l.length + 1 ≤ k) :
    (if ((y[i].f0) == ((rd_T23 l (j : Int)).f0) && (((y[i]).f1) == ((rd_T23 l (j : Int)).f1) && ((((y[i]).f2).toList) == (((rd_T23 l (j : Int)).f2).toList)))) = true then (if (i : Int) < (x.length : Int) then ((hearsayref02_holds.f k l ((rd_T23 x (i : Int)).f0) ((rd_T23 x (i : Int)).f1) ((rd_T23 x (i : Int)).f2)).bind fun t526 => (if t526 = true then (hearsayref02_Class.l1 k x y l (j : Int) (wrap64 ((i : Int) + 1))) else (if l.length < 4398046511104 then (hearsayref02_Class.l1 k x y (l ++ [(⟨(rd_T23 x (i : Int)).f0, (rd_T23 x (i : Int)).f1, (rd_T23 x (i : Int)).f2⟩ : Tm)]) (j : Int) (wrap64 ((i : Int) + 1))) else (none)))) else (none)) else (hearsayref02_Class.l1 k x y l (j : Int) (wrap64 ((i : Int) + 1)))) =
    hearsayref02_Class.l1 k x y (clsB l[j] l x[i] y[i]) (j : Int) (wrap64 ((i : Int) + 1)) := by
  rw [rd_at23 _ _ hj, eqT_fields]
  unfold clsB
  by_cases h : y[i] = l[j]
  · rw [if_pos (decide_eq_true h), if_pos (by omega), if_pos h, rd_at23 _ _ hi, holds_f l x[i] (by omega) k hk]
    simp only [Option.bind_some]
    unfold pushT
    by_cases hm : x[i] ∈ l
    · rw [if_pos (decide_eq_true hm), if_pos hm]
    · rw [if_neg (by simp [hm]), if_neg hm, if_pos (by simp only [smallN] at ll; omega)]
  · rw [if_neg (by simp [h]), if_neg h]
open Classical in
theorem class_l1 (x y : List Tm) (hxy : x.length = y.length) (j : Nat) (B : Nat) (hB : B + 1 < smallN) (hx : x.length < smallN) (s : Tm) : ∀ (n i : Nat) (l : List Tm) (k : Nat), x.length = i + n → (hj : j < l.length) → l[j] = s → l.length + 2 * n ≤ B → B + 1 ≤ k →
    hearsayref02_Class.l1 (k + 2 * n + 1) x y l (j : Int) (i : Int) = hearsayref02_Class.l0 k x y (clsIn s (x.drop i) (y.drop i) l) (wrap64 ((j : Int) + 1)) := by
  intro n
  induction n with
  | zero =>
    intro i l k hi hj hs hl hk
    rw [hearsayref02_Class.l1, if_neg (by omega), List.drop_eq_nil_of_le (by omega)]
    rfl
  | succ n ih =>
    intro i l k hi hj hs hl hk
    have h1 : i < x.length := by omega
    have h2 : i < y.length := by omega
    have hw : wrap64 ((i : Int) + 1) = ((i + 1 : Nat) : Int) := wrap_succ i (by omega)
    rw [show k + 2 * (n + 1) + 1 = (k + 2 * n + 1) + 2 by omega, List.drop_eq_getElem_cons h1, List.drop_eq_getElem_cons h2]
    unfold clsIn
    have hA := clsA_pre s l x[i] y[i]
    have lA := clsA_len s l x[i] y[i]
    obtain ⟨l', hl'⟩ : ∃ l', clsA s l x[i] y[i] = l' := ⟨_, rfl⟩
    rw [hl'] at hA lA ⊢
    obtain ⟨hjA, hsA⟩ := pre_get hA hj
    have lB := clsB_len s l' x[i] y[i]
    obtain ⟨hjB, hsB⟩ := pre_get (clsB_pre s l' x[i] y[i]) hjA
    rw [← ih (i + 1) (clsB s l' x[i] y[i]) k (by omega) hjB (by rw [hsB, hsA, hs]) (by omega) hk]
    rw [hearsayref02_Class.l1, if_pos (by omega), if_pos (by omega), if_pos (by omega), if_pos (by omega), rd_at23 x i h1, rd_at23 y i h2, rd_at23 l j hj, eqT_fields]
    have fin : ∀ fl : Bool, fl = decide (x[i] = s ∧ y[i] ∉ l) → hearsayref02_Class.j2 (k + 2 * n + 2) x y l (j : Int) (i : Int) fl = hearsayref02_Class.l1 (k + 2 * n + 1) x y (clsB s l' x[i] y[i]) (j : Int) ((i + 1 : Nat) : Int) := by
      intro fl hfl
      by_cases hc : x[i] = s ∧ y[i] ∉ l
      · rw [hfl, decide_eq_true hc, hearsayref02_Class.j2, if_pos rfl, if_pos (by omega), if_pos (by omega), if_pos (by simp only [smallN] at hB; omega)]
        simp only [Option.bind_some]
        obtain rfl : l' = l ++ [y[i]] := hl'.symm.trans (by unfold clsA pushT; rw [if_pos hc.1, if_neg hc.2])
        rw [if_pos (by omega), rd_at23 y i h2, if_pos (by simp; omega)]
        have := class_b (k + 2 * n + 1) x y (l ++ [y[i]]) i j h1 h2 hjA (by simp; omega) (by simp; omega)
        rw [hsA, hs, hw] at this
        rw [← this]
        rw [hw]
      · rw [hfl, decide_eq_false hc, hearsayref02_Class.j2, if_neg (by simp), if_pos (by omega), if_pos (by omega), if_pos (by omega), if_pos (by omega)]
        obtain rfl : l = l' := Eq.trans (Eq.symm (by
          unfold clsA pushT
          by_cases h3 : x[i] = s
          · rw [if_pos h3, if_pos (Classical.byContradiction fun h4 => hc ⟨h3, h4⟩)]
          · rw [if_neg h3] : clsA s l x[i] y[i] = l)) hl'
        have := class_b (k + 2 * n + 1) x y l i j h1 h2 hj (by omega) (by omega)
        rw [hs, hw] at this
        rw [← this, hw, rd_at23 y i h2]
    by_cases h3 : x[i] = l[j]
    · rw [if_pos (decide_eq_true h3), if_pos (by omega), holds_f l y[i] (by omega) _ (by omega)]
      simp only [Option.bind_some]
      exact fin _ (by rw [← hs]; by_cases hm : y[i] ∈ l <;> simp [h3, hm])
    · rw [if_neg (by simp [h3])]
      exact fin _ (by rw [← hs]; simp [h3])
theorem pushT_mem (l : List Tm) (t z : Tm) : z ∈ pushT l t ↔ z ∈ l ∨ z = t := by
  unfold pushT
  split
  · rename_i h
    exact ⟨Or.inl, fun h' => h'.elim id (fun e => e ▸ h)⟩
  · simp
theorem clsA_mem (s : Tm) (l : List Tm) (a b z : Tm) : z ∈ clsA s l a b ↔ z ∈ l ∨ (a = s ∧ z = b) := by
  unfold clsA
  split
  · rename_i h
    rw [pushT_mem]; simp [h]
  · rename_i h
    simp [h]
theorem clsB_mem (s : Tm) (l : List Tm) (a b z : Tm) : z ∈ clsB s l a b ↔ z ∈ l ∨ (b = s ∧ z = a) := by
  unfold clsB
  split
  · rename_i h
    rw [pushT_mem]; simp [h]
  · rename_i h
    simp [h]
theorem clsIn_mem (s z : Tm) : ∀ (x y l : List Tm), z ∈ clsIn s x y l ↔ z ∈ l ∨ (s, z) ∈ x.zip y ∨ (z, s) ∈ x.zip y
  | [], _, l => by simp [clsIn]
  | _ :: _, [], l => by simp [clsIn]
  | a :: x, b :: y, l => by
    rw [clsIn, clsIn_mem s z x y, clsB_mem, clsA_mem, List.zip_cons_cons]
    simp only [List.mem_cons, Prod.mk.injEq]
    constructor
    · rintro (((h | ⟨rfl, rfl⟩) | ⟨rfl, rfl⟩) | h | h)
      · exact Or.inl h
      · exact Or.inr (Or.inl (Or.inl ⟨rfl, rfl⟩))
      · exact Or.inr (Or.inr (Or.inl ⟨rfl, rfl⟩))
      · exact Or.inr (Or.inl (Or.inr h))
      · exact Or.inr (Or.inr (Or.inr h))
    · rintro (h | (⟨rfl, rfl⟩ | h) | (⟨rfl, rfl⟩ | h))
      · exact Or.inl (Or.inl (Or.inl h))
      · exact Or.inl (Or.inl (Or.inr ⟨rfl, rfl⟩))
      · exact Or.inr (Or.inl h)
      · exact Or.inl (Or.inr ⟨rfl, rfl⟩)
      · exact Or.inr (Or.inr h)
theorem clsIn_pre (s : Tm) : ∀ (x y l : List Tm), l <+: clsIn s x y l
  | [], _, l => List.prefix_refl _
  | _ :: _, [], l => List.prefix_refl _
  | a :: x, b :: y, l => ((clsA_pre s l a b).trans (clsB_pre s _ a b)).trans (clsIn_pre s x y _)
theorem pushT_nodup {l : List Tm} {t : Tm} (h : l.Nodup) : (pushT l t).Nodup := by
  unfold pushT
  split
  · exact h
  · rename_i hm
    refine List.nodup_append.2 ⟨h, by simp, fun a ha b hb => ?_⟩
    rw [List.mem_singleton] at hb
    rintro rfl
    rw [hb] at ha
    exact hm ha
theorem clsIn_nodup (s : Tm) : ∀ (x y l : List Tm), l.Nodup → (clsIn s x y l).Nodup
  | [], _, l, h => h
  | _ :: _, [], l, h => h
  | a :: x, b :: y, l, h => by
    rw [clsIn]
    refine clsIn_nodup s x y _ ?_
    have hA : (clsA s l a b).Nodup := by unfold clsA; split; exact pushT_nodup h; exact h
    unfold clsB; split
    · exact pushT_nodup hA
    · exact hA
/-- What the rounds have found so far. -/
structure ClsInv (x y : List Tm) (t : Tm) (l : List Tm) (j : Nat) : Prop where
  nodup : l.Nodup
  has : t ∈ l
  link : ∀ z ∈ l, Ln (fun a b => (a, b) ∈ x.zip y) t z
  sub : ∀ z ∈ l, z ∈ t :: (x ++ y)
  done : ∀ i, (hi : i < l.length) → i < j → ∀ z, ((l[i], z) ∈ x.zip y ∨ (z, l[i]) ∈ x.zip y) → z ∈ l
theorem nodup_len : ∀ {l m : List Tm}, l.Nodup → (∀ z ∈ l, z ∈ m) → l.length ≤ m.length
  | [], _, _, _ => Nat.zero_le _
  | a :: l, m, h, hs => by
    obtain ⟨p, q, rfl⟩ := List.append_of_mem (hs a (by simp))
    rw [List.nodup_cons] at h
    have := nodup_len (m := p ++ q) h.2 (fun z hz => by
      have h1 := hs z (by simp [hz])
      have hne : z ≠ a := fun e => h.1 (e ▸ hz)
      simp only [List.mem_append, List.mem_cons] at h1 ⊢
      rcases h1 with h1 | h1 | h1
      · exact Or.inl h1
      · exact absurd h1 hne
      · exact Or.inr h1)
    simp only [List.length_append, List.length_cons] at this ⊢
    omega
theorem ClsInv.len {x y : List Tm} {t : Tm} {l : List Tm} {j : Nat} (h : ClsInv x y t l j) : l.length ≤ 1 + x.length + y.length := by
  have := nodup_len h.nodup h.sub
  simp only [List.length_append, List.length_cons] at this
  omega
theorem ClsInv.step {x y : List Tm} {t : Tm} {l : List Tm} {j : Nat} (h : ClsInv x y t l j) (hj : j < l.length) : ClsInv x y t (clsIn l[j] x y l) (j + 1) := by
  have hp := clsIn_pre l[j] x y l
  refine ⟨clsIn_nodup _ _ _ _ h.nodup, hp.subset h.has, fun z hz => ?_, fun z hz => ?_, fun i hi hij z hz => ?_⟩
  · rcases (clsIn_mem _ _ _ _ _).1 hz with h1 | h1 | h1
    · exact h.link z h1
    · exact (h.link _ (List.getElem_mem hj)).trans (.rel h1)
    · exact (h.link _ (List.getElem_mem hj)).trans (.symm (.rel h1))
  · rcases (clsIn_mem _ _ _ _ _).1 hz with h1 | h1 | h1
    · exact h.sub z h1
    · simp [(zip_both h1).2]
    · simp [(zip_both h1).1]
  · by_cases e : i < l.length
    · obtain ⟨_, he⟩ := pre_get hp e
      rw [he] at hz
      by_cases e2 : i = j
      · subst e2
        exact (clsIn_mem _ _ _ _ _).2 (Or.inr hz)
      · exact hp.subset (h.done i e (by omega) z hz)
    · omega
/-- The class: each linked term once. -/
structure ClsOf (x y : List Tm) (t : Tm) (l : List Tm) : Prop where
  nodup : l.Nodup
  mem : ∀ z, z ∈ l ↔ Ln (fun a b => (a, b) ∈ x.zip y) t z
  len : l.length ≤ 1 + x.length + y.length
theorem ClsInv.end_ {x y : List Tm} {t : Tm} {l : List Tm} {j : Nat} (h : ClsInv x y t l j) (hj : l.length ≤ j) : ClsOf x y t l := by
  refine ⟨h.nodup, fun z => ⟨h.link z, fun hl => ?_⟩, h.len⟩
  have hc : ∀ a b, (a, b) ∈ x.zip y → (a ∈ l ↔ b ∈ l) := fun a b hab => by
    constructor
    · intro ha
      obtain ⟨i, hi, rfl⟩ := List.getElem_of_mem ha
      exact h.done i hi (by omega) b (Or.inl hab)
    · intro hb
      obtain ⟨i, hi, rfl⟩ := List.getElem_of_mem hb
      exact h.done i hi (by omega) a (Or.inr hab)
  have : ∀ {a b : Tm}, Ln (fun a b => (a, b) ∈ x.zip y) a b → (a ∈ l ↔ b ∈ l) := by
    intro a b hab
    induction hab with
    | rel h => exact hc _ _ h
    | refl => exact Iff.rfl
    | symm _ ih => exact ih.symm
    | trans _ _ i1 i2 => exact i1.trans i2
  exact (this hl).1 h.has
theorem class_l0 (x y : List Tm) (hxy : x.length = y.length) (hx : 8 * x.length + 8 < smallN) (t : Tm) : ∀ (d j : Nat) (l : List Tm), ClsInv x y t l j → j ≤ l.length → 1 + x.length + y.length ≤ j + d →
    ∃ L, ClsOf x y t L ∧ ∀ k, (d + 1) * (2 * x.length + 3) + 4 * x.length + 4 ≤ k → hearsayref02_Class.l0 k x y l (j : Int) = some L := by
  intro d
  induction d with
  | zero =>
    intro j l h hj hd
    have := h.len
    refine ⟨l, h.end_ (by omega), fun k hk => ?_⟩
    obtain ⟨k, rfl⟩ : ∃ q, k = q + 1 := ⟨k - 1, by omega⟩
    rw [hearsayref02_Class.l0, if_neg (by omega)]
  | succ d ih =>
    intro j l h hj hd
    have hlen := h.len
    by_cases hlt : j < l.length
    · obtain ⟨L, hL, hk⟩ := ih (j + 1) (clsIn l[j] x y l) (h.step hlt) (by have := (clsIn_pre l[j] x y l).length_le; omega) (by omega)
      refine ⟨L, hL, fun k hk' => ?_⟩
      have e1 : (d + 1 + 1) * (2 * x.length + 3) = (d + 1) * (2 * x.length + 3) + (2 * x.length + 3) := Nat.succ_mul _ _
      have e2 : 0 < (d + 1) * (2 * x.length + 3) := Nat.mul_pos (by omega) (by omega)
      obtain ⟨k, rfl⟩ : ∃ q, k = q + 2 * x.length + 1 + 1 := ⟨k - 2 * x.length - 2, by omega⟩
      have := class_l1 x y hxy j (4 * x.length + 1) (by omega) (by omega) l[j] x.length 0 l k (by omega) hlt rfl (by omega) (by omega)
      rw [hearsayref02_Class.l0, if_pos (by omega)]
      rw [show ((0 : Nat) : Int) = 0 from rfl] at this
      rw [this, List.drop_zero, List.drop_zero, wrap_succ j (by omega)]
      exact hk k (by omega)
    · refine ⟨l, h.end_ (by omega), fun k hk => ?_⟩
      obtain ⟨k, rfl⟩ : ∃ q, k = q + 1 := ⟨k - 1, by omega⟩
      rw [hearsayref02_Class.l0, if_neg (by omega)]
theorem class_f (x y : List Tm) (hxy : x.length = y.length) (hx : 8 * x.length + 8 < smallN) (t : Tm) :
    ∃ L, ClsOf x y t L ∧ ∃ K, ∀ k, K ≤ k → hearsayref02_Class.f k x y t.f0 t.f1 t.f2 = some L := by
  obtain ⟨L, hL, hk⟩ := class_l0 x y hxy hx t (1 + x.length + y.length) 0 [t] ⟨by simp, by simp, fun z hz => by simp at hz; subst hz; exact .refl _, fun z hz => by simp at hz; simp [hz], fun i hi h => by omega⟩ (by simp) (by omega)
  exact ⟨L, hL, _, fun k h => hk k h⟩
theorem fixed_f (l : List Tm) (ll : l.length < smallN) : ∀ k, l.length + 1 ≤ k → hearsayref02_fixed.f k l = some (l.filter fun t => !isVar t) := by
  intro k hk
  unfold hearsayref02_fixed.f
  suffices h : ∀ (n i k : Nat) (out : List Tm), l.length = i + n → out.length ≤ i → n + 1 ≤ k → hearsayref02_fixed.l0 k l out (i : Int) = some (out ++ (l.drop i).filter fun t => !isVar t) by
    have := h l.length 0 k [] (by omega) (by simp) hk
    simpa using this
  intro n
  induction n with
  | zero =>
    intro i k out hi ho hk
    obtain ⟨k, rfl⟩ : ∃ j, k = j + 1 := ⟨k - 1, by omega⟩
    rw [hearsayref02_fixed.l0, if_neg (by omega), List.drop_eq_nil_of_le (by omega)]
    simp
  | succ n ih =>
    intro i k out hi ho hk
    obtain ⟨k, rfl⟩ : ∃ j, k = j + 1 := ⟨k - 1, by omega⟩
    have h1 : i < l.length := by omega
    rw [hearsayref02_fixed.l0, if_pos (by omega), if_pos (by omega), rd_at23 _ _ h1, rvar_f]
    simp only [Option.bind_some]
    rw [wrap_succ i (by omega), List.drop_eq_getElem_cons h1]
    cases hv : isVar l[i] with
    | true =>
      rw [if_pos rfl, ih (i + 1) k out (by omega) (by omega) (by omega), List.filter_cons_of_neg (by simp [hv])]
    | false =>
      rw [if_neg (by simp), if_pos (by simp only [smallN] at ll; omega), ih (i + 1) k _ (by omega) (by simp; omega) (by omega), List.filter_cons_of_pos (by simp [hv])]
      simp
def leastT : List Tm → Tm → Tm
  | [], b => b
  | t :: l, b => leastT l (if t.f1 < b.f1 then t else b)
theorem leastT_spec : ∀ (l : List Tm) (b : Tm), (leastT l b = b ∨ leastT l b ∈ l) ∧ (leastT l b).f1 ≤ b.f1 ∧ ∀ t ∈ l, (leastT l b).f1 ≤ t.f1
  | [], b => ⟨Or.inl rfl, Int.le_refl _, fun t h => by simp at h⟩
  | t :: l, b => by
    obtain ⟨h1, h2, h3⟩ := leastT_spec l (if t.f1 < b.f1 then t else b)
    rw [leastT]
    by_cases hc : t.f1 < b.f1
    · rw [if_pos hc] at h1 h2 h3 ⊢
      refine ⟨Or.inr (h1.elim (fun h => by rw [h]; simp) (fun h => by simp [h])), by omega, fun z hz => ?_⟩
      rcases List.mem_cons.1 hz with rfl | hz
      · exact h2
      · exact h3 z hz
    · rw [if_neg hc] at h1 h2 h3 ⊢
      refine ⟨h1.elim Or.inl (fun h => Or.inr (by simp [h])), h2, fun z hz => ?_⟩
      rcases List.mem_cons.1 hz with rfl | hz
      · omega
      · exact h3 z hz
theorem stands_l (l : List Tm) (ll : l.length < smallN) : ∀ (n i k : Nat) (b : Tm), l.length = i + n → n + 1 ≤ k → hearsayref02_stands.l0 k l (i : Int) b.f0 b.f1 b.f2 = some ((leastT (l.drop i) b).f0, (leastT (l.drop i) b).f1, (leastT (l.drop i) b).f2) := by
  intro n
  induction n with
  | zero =>
    intro i k b hi hk
    obtain ⟨k, rfl⟩ : ∃ j, k = j + 1 := ⟨k - 1, by omega⟩
    rw [hearsayref02_stands.l0, if_neg (by omega), List.drop_eq_nil_of_le (by omega)]
    rfl
  | succ n ih =>
    intro i k b hi hk
    obtain ⟨k, rfl⟩ : ∃ j, k = j + 1 := ⟨k - 1, by omega⟩
    have h1 : i < l.length := by omega
    rw [hearsayref02_stands.l0, if_pos (by omega), if_pos (by omega), rd_at23 _ _ h1, wrap_succ i (by omega), List.drop_eq_getElem_cons h1, leastT]
    by_cases hc : l[i].f1 < b.f1
    · rw [if_pos hc, ih (i + 1) k l[i] (by omega) (by omega), if_pos hc]
    · rw [if_neg hc, ih (i + 1) k b (by omega) (by omega), if_neg hc]
/-- What a variable stands for, by its class. -/
def standsT (L : List Tm) : Tm := match L.filter fun t => !isVar t with
  | c :: _ => c
  | [] => match L with
    | t :: _ => leastT L t
    | [] => ⟨0, 0, ⟨#[]⟩⟩
theorem stands_f (L : List Tm) (hL : L ≠ []) (ll : L.length < smallN) (k : Nat) (hk : L.length + 1 ≤ k) : hearsayref02_stands.f k L = some ((standsT L).f0, (standsT L).f1, (standsT L).f2) := by
  unfold hearsayref02_stands.f
  rw [fixed_f L ll k hk]
  simp only [Option.bind_some]
  unfold standsT
  cases hf : L.filter fun t => !isVar t with
  | cons c F =>
    rw [if_pos (by simp), if_pos (by simp)]
    simp [rd_T23]
  | nil =>
    rw [if_neg (by simp)]
    cases L with
    | nil => exact absurd rfl hL
    | cons t L =>
      rw [if_pos (by simp)]
      have e : rd_T23 (t :: L) 0 = t := by simp [rd_T23]
      rw [e]
      exact stands_l (t :: L) ll (t :: L).length 0 k t (by simp) hk
/-- It is the root of the class. -/
theorem Uni.stands {P Q : List Tm} {r : Tm → Tm} {m : List Bd} (h : Uni P Q r m) {t : Tm} {L : List Tm} (hL : ClsOf P Q t L) : standsT L = r t := by
  have ht : r t ∈ L := (hL.mem _).2 ((h.same _ _).1 (h.idem t).symm)
  have hr : ∀ z ∈ L, r z = r t := fun z hz => ((h.same _ _).2 ((hL.mem z).1 hz)).symm
  unfold standsT
  cases hf : L.filter fun t => !isVar t with
  | cons c F =>
    have hc : c ∈ L.filter fun t => !isVar t := by rw [hf]; simp
    simp only [List.mem_filter, Bool.not_eq_true'] at hc
    exact (h.fix hc.2).symm.trans (hr c hc.1)
  | nil =>
    have hv : ∀ z ∈ L, isVar z = true := fun z hz => by
      cases e : isVar z with
      | true => rfl
      | false =>
        have : z ∈ L.filter fun t => !isVar t := List.mem_filter.2 ⟨hz, by simp [e]⟩
        rw [hf] at this; simp at this
    cases L with
    | nil => simp at ht
    | cons a L =>
      simp only
      obtain ⟨h1, h2, h3⟩ := leastT_spec (a :: L) a
      have hm : leastT (a :: L) a ∈ a :: L := h1.elim (fun e => by rw [e]; simp) id
      have g1 := h3 (r t) ht
      have e1 := isVar_eq (hv _ hm)
      have e2 := isVar_eq (hv _ ht)
      by_cases e : leastT (a :: L) a = r t
      · exact e
      · have k1 := (h.rank (leastT (a :: L) a)).2 (by rw [hr _ hm]; exact fun e' => e e'.symm)
        rw [hr _ hm, rank_var (hv _ hm), rank_var (hv _ ht)] at k1
        have p1 : 0 ≤ (r t).f1 := by
          have := hv _ ht
          unfold isVar at this
          simp only [Bool.and_eq_true, decide_eq_true_eq] at this
          exact this.2.1
        omega
end Go.Proofs.YtnomgmlfagiffaaDoor.T
/- The document's Settled answers the map of the binding. -/
set_option linter.unusedVariables false
set_option linter.unusedSimpArgs false
namespace Go.Proofs.YtnomgmlfagiffaaDoor.T
open Go.RowKit Go.Lib Go.Proofs.YtnomgmlfagiffaaDoorW.PrintWords Go.Proofs.YtnomgmlfagiffaaDoor.Hs
def freshV (out : List Bd) (v : Int) : Prop := ∀ b, out.getLast? = some b → b.f0 < v
/-- What the scan knows ahead of place i: at is the first of the least fresh ones, -1 if there is none. -/
def ScanInv (s out : List Bd) (i : Nat) (at_ : Int) : Prop :=
  (at_ = -1 ∧ ∀ (j : Nat) (h : j < s.length), j < i → ¬ freshV out s[j].f0) ∨
  ∃ (j : Nat) (h : j < s.length), at_ = j ∧ j < i ∧ freshV out s[j].f0 ∧ (∀ (j' : Nat) (h' : j' < s.length), j' < i → freshV out s[j'].f0 → s[j].f0 ≤ s[j'].f0) ∧ ∀ (j' : Nat) (h' : j' < s.length), j' < j → s[j'].f0 ≠ s[j].f0
/-- What the scan does at its end. -/
def scanEnd (k : Nat) (s out : List Bd) (at_ : Int) : Option (List Bd) :=
  if at_ < 0 then some out else if 0 ≤ at_ then (if at_ < (s.length : Int) then (if out.length < 3518437208883 then hearsayref02_Settled.l0 k s (out ++ [⟨(rd_T44 s at_).f0, ⟨(rd_T44 s at_).f1.f0, (rd_T44 s at_).f1.f1, (rd_T44 s at_).f1.f2⟩⟩]) else none) else none) else none
theorem inv_skip {s out : List Bd} {i : Nat} {a : Int} (h : ScanInv s out i a) (hi : i < s.length) (hf : ¬ freshV out s[i].f0) : ScanInv s out (i + 1) a := by
  rcases h with ⟨ha, h⟩ | ⟨j, hj, ha, hji, hfr, hmin, hfst⟩
  · refine .inl ⟨ha, fun j' h' hj' => ?_⟩
    rcases Nat.lt_or_ge j' i with g | g
    · exact h j' h' g
    · obtain rfl : j' = i := by omega
      exact hf
  · refine .inr ⟨j, hj, ha, by omega, hfr, fun j' h' hj' hfr' => ?_, hfst⟩
    rcases Nat.lt_or_ge j' i with g | g
    · exact hmin j' h' g hfr'
    · obtain rfl : j' = i := by omega
      exact absurd hfr' hf
theorem inv_first {s out : List Bd} {i : Nat} (h : ScanInv s out i (-1)) (hi : i < s.length) (hf : freshV out s[i].f0) : ScanInv s out (i + 1) i := by
  rcases h with ⟨_, h⟩ | ⟨j, hj, ha, _⟩
  · refine .inr ⟨i, hi, rfl, by omega, hf, fun j' h' hj' hfr' => ?_, fun j' h' hj' he => h j' h' hj' (by rw [he]; exact hf)⟩
    rcases Nat.lt_or_ge j' i with g | g
    · exact absurd hfr' (h j' h' g)
    · obtain rfl : j' = i := by omega
      exact Int.le_refl _
  · omega
theorem inv_less {s out : List Bd} {i j : Nat} (h : ScanInv s out i (j : Int)) (hi : i < s.length) (hj : j < s.length) (hf : freshV out s[i].f0) (hl : s[i].f0 < s[j].f0) : ScanInv s out (i + 1) i := by
  rcases h with ⟨ha, _⟩ | ⟨j1, hj1, ha, hji, hfr, hmin, hfst⟩
  · omega
  · obtain rfl : j1 = j := by omega
    refine .inr ⟨i, hi, rfl, by omega, hf, fun j' h' hj' hfr' => ?_, fun j' h' hj' he => ?_⟩
    · rcases Nat.lt_or_ge j' i with g | g
      · have := hmin j' h' g hfr'; omega
      · obtain rfl : j' = i := by omega
        exact Int.le_refl _
    · have := hmin j' h' hj' (by rw [he]; exact hf)
      omega
theorem inv_keep {s out : List Bd} {i j : Nat} (h : ScanInv s out i (j : Int)) (hi : i < s.length) (hj : j < s.length) (hl : ¬ s[i].f0 < s[j].f0) : ScanInv s out (i + 1) j := by
  rcases h with ⟨ha, _⟩ | ⟨j1, hj1, ha, hji, hfr, hmin, hfst⟩
  · omega
  · obtain rfl : j1 = j := by omega
    refine .inr ⟨j1, hj1, rfl, by omega, hfr, fun j' h' hj' hfr' => ?_, hfst⟩
    rcases Nat.lt_or_ge j' i with g | g
    · exact hmin j' h' g hfr'
    · obtain rfl : j' = i := by omega
      omega
theorem scan_f (s out : List Bd) (ls : s.length < 4398046511104) (lo : out.length < 4398046511104) : ∀ (n i : Nat) (a : Int), s.length = i + n → ScanInv s out i a →
    ∃ a', ScanInv s out s.length a' ∧ ∀ k, hearsayref02_Settled.l1 (k + n + 1) s out a (i : Int) = scanEnd k s out a' := by
  intro n
  induction n with
  | zero =>
    intro i a hi h
    obtain rfl : i = s.length := by omega
    refine ⟨a, h, fun k => ?_⟩
    rw [show k + 0 + 1 = k + 1 from rfl, hearsayref02_Settled.l1, if_neg (by omega)]
    rfl
  | succ n ih =>
    intro i a hi h
    have hi' : i < s.length := by omega
    have hw : wrap64 ((i : Int) + 1) = ((i + 1 : Nat) : Int) := by unfold wrap64; omega
    have hgo : ∀ a1, ScanInv s out (i + 1) a1 → (∀ k, hearsayref02_Settled.l1 (k + (n + 1) + 1) s out a (i : Int) = hearsayref02_Settled.l1 (k + n + 1) s out a1 ((i + 1 : Nat) : Int)) →
        ∃ a', ScanInv s out s.length a' ∧ ∀ k, hearsayref02_Settled.l1 (k + (n + 1) + 1) s out a (i : Int) = scanEnd k s out a' := by
      intro a1 h1 hk
      obtain ⟨a', h', hs⟩ := ih (i + 1) a1 (by omega) h1
      exact ⟨a', h', fun k => (hk k).trans (hs k)⟩
    have hrd := rd_at44 s i hi'
    have ha : a = -1 ∨ ∃ (j : Nat), j < s.length ∧ a = (j : Int) := by
      rcases h with ⟨ha, _⟩ | ⟨j, hj, ha, _⟩
      · exact .inl ha
      · exact .inr ⟨j, hj, ha⟩
    by_cases h0 : out.length = 0
    · have hout : out = [] := List.eq_nil_of_length_eq_zero h0
      have hf : freshV out s[i].f0 := by rw [hout]; intro b hb; simp at hb
      rcases ha with rfl | ⟨j, hj, rfl⟩
      · refine hgo i (inv_first h hi' hf) fun k => ?_
        rw [show k + (n + 1) + 1 = (k + n + 1) + 1 from by omega, hearsayref02_Settled.l1, if_pos (by omega), if_pos (by omega), if_pos (by omega), hw]
      · have hrj := rd_at44 s j hj
        by_cases hl : s[i].f0 < s[j].f0
        · refine hgo i (inv_less h hi' hj hf hl) fun k => ?_
          rw [show k + (n + 1) + 1 = (k + n + 1) + 1 from by omega, hearsayref02_Settled.l1, if_pos (by omega), if_pos (by omega), if_neg (by omega), if_pos (by omega), if_pos (by omega), if_pos (by omega), hrd, hrj, if_pos hl, hw]
        · refine hgo j (inv_keep h hi' hj hl) fun k => ?_
          rw [show k + (n + 1) + 1 = (k + n + 1) + 1 from by omega, hearsayref02_Settled.l1, if_pos (by omega), if_pos (by omega), if_neg (by omega), if_pos (by omega), if_pos (by omega), if_pos (by omega), hrd, hrj, if_neg hl, hw]
    · have hwl : wrap64 ((out.length : Int) - 1) = ((out.length - 1 : Nat) : Int) := by unfold wrap64; omega
      have hlast : out.getLast? = some (rd_T44 out ((out.length - 1 : Nat) : Int)) := by
        rw [rd_at44 out (out.length - 1) (by omega), List.getLast?_eq_getElem?, List.getElem?_eq_getElem (by omega)]
      by_cases hg : s[i].f0 > (rd_T44 out ((out.length - 1 : Nat) : Int)).f0
      · have hf : freshV out s[i].f0 := by intro b hb; rw [hlast] at hb; injection hb with hb; rw [← hb]; exact hg
        rcases ha with rfl | ⟨j, hj, rfl⟩
        · refine hgo i (inv_first h hi' hf) fun k => ?_
          rw [show k + (n + 1) + 1 = (k + n + 1) + 1 from by omega, hearsayref02_Settled.l1, if_pos (by omega), if_neg (by omega), if_pos (by omega), hwl, if_pos (by omega), if_pos (by omega), hrd, if_pos hg, if_pos (by omega), hw]
        · have hrj := rd_at44 s j hj
          by_cases hl : s[i].f0 < s[j].f0
          · refine hgo i (inv_less h hi' hj hf hl) fun k => ?_
            rw [show k + (n + 1) + 1 = (k + n + 1) + 1 from by omega, hearsayref02_Settled.l1, if_pos (by omega), if_neg (by omega), if_pos (by omega), hwl, if_pos (by omega), if_pos (by omega), hrd, if_pos hg, if_neg (by omega), if_pos (by omega), if_pos (by omega), hrj, if_pos hl, hw]
          · refine hgo j (inv_keep h hi' hj hl) fun k => ?_
            rw [show k + (n + 1) + 1 = (k + n + 1) + 1 from by omega, hearsayref02_Settled.l1, if_pos (by omega), if_neg (by omega), if_pos (by omega), hwl, if_pos (by omega), if_pos (by omega), hrd, if_pos hg, if_neg (by omega), if_pos (by omega), if_pos (by omega), hrj, if_neg hl, hw]
      · have hf : ¬ freshV out s[i].f0 := fun h => hg (h _ hlast)
        refine hgo a (inv_skip h hi' hf) fun k => ?_
        rw [show k + (n + 1) + 1 = (k + n + 1) + 1 from by omega, hearsayref02_Settled.l1, if_pos (by omega), if_neg (by omega), if_pos (by omega), hwl, if_pos (by omega), if_pos (by omega), hrd, if_neg hg, hw]
theorem putM_len (v : Int) (t : Tm) : ∀ m : List Bd, (putM v t m).length ≤ m.length + 1
  | [] => by simp [putM]
  | c :: r => by
    have := putM_len v t r
    unfold putM
    split
    · simp
    · split
      · simp
      · simp only [List.length_cons]; omega
theorem startM_len (s : List Bd) : (startM s).length ≤ s.length := by
  unfold startM
  suffices h : ∀ m : List Bd, (s.foldl (fun m b => if (getM m b.f0).isSome then m else putM b.f0 b.f1 m) m).length ≤ m.length + s.length from by simpa using h []
  induction s with
  | nil => intro m; simp
  | cons b r ih =>
    intro m
    rw [List.foldl_cons]
    refine Nat.le_trans (ih _) ?_
    have := putM_len b.f0 b.f1 m
    simp only [List.length_cons]
    split <;> omega
theorem getM_first : ∀ (s : List Bd) (j : Nat) (h : j < s.length), (∀ (j' : Nat) (h' : j' < s.length), j' < j → s[j'].f0 ≠ s[j].f0) → getM s s[j].f0 = some s[j].f1
  | b :: r, 0, _, _ => by rw [getM_cons]; simp
  | b :: r, j + 1, h, hf => by
    have h1 := hf 0 (by simp) (by omega)
    rw [getM_cons, if_neg (by simpa using h1)]
    have hj : j < r.length := by simpa using h
    have := getM_first r j hj (fun j' h' hj' => by have := hf (j' + 1) (by simp; omega) (by omega); simpa using this)
    simpa using this
theorem getM_has {s : List Bd} {b : Bd} (hb : b ∈ s) : ∃ t, getM s b.f0 = some t := by
  induction s with
  | nil => simp at hb
  | cons c r ih =>
    rw [getM_cons]
    by_cases e : c.f0 = b.f0
    · exact ⟨_, if_pos e⟩
    · rw [if_neg e]
      rcases List.mem_cons.1 hb with rfl | hb
      · exact absurd rfl e
      · exact ih hb
theorem settled_f (s : List Bd) (ls : s.length < 3298534883328) : ∃ K, ∀ k, K ≤ k → hearsayref02_Settled.f k s = some (startM s) := by
  unfold hearsayref02_Settled.f
  have hlen := startM_len s
  have hr := startM_rising s
  suffices h : ∀ (rest out : List Bd), startM s = out ++ rest → ∃ K, ∀ k, K ≤ k → hearsayref02_Settled.l0 k s out = some (startM s) from h (startM s) [] rfl
  intro rest
  induction rest with
  | nil =>
    intro out ho
    have hol : out.length ≤ s.length := by rw [List.append_nil] at ho; rw [← ho]; exact hlen
    obtain ⟨a', h', hs⟩ := scan_f s out (by omega) (by omega) s.length 0 (-1) (by omega) (.inl ⟨rfl, fun j h hj => by omega⟩)
    rcases h' with ⟨rfl, _⟩ | ⟨j, hj, rfl, _, hf, _⟩
    · refine ⟨s.length + 2, fun k hk => ?_⟩
      obtain ⟨k, rfl⟩ : ∃ m, k = m + s.length + 1 + 1 := ⟨k - s.length - 2, by omega⟩
      rw [hearsayref02_Settled.l0]
      have := hs k
      simp only [Int.natCast_zero] at this
      rw [this]
      unfold scanEnd
      rw [if_pos (by omega), ho]
      simp
    · exfalso
      obtain ⟨t, ht⟩ := getM_has (List.getElem_mem hj)
      have hin := getM_mem (m := startM s) (by rw [getM_start]; exact ht)
      rw [ho, List.append_nil] at hin
      rw [ho, List.append_nil] at hr
      have hne : out ≠ [] := fun h => by rw [h] at hin; simp at hin
      have hl := hf _ (List.getLast?_eq_some_getLast hne)
      have hsplit := List.dropLast_concat_getLast hne
      rw [← hsplit] at hin hr
      rcases List.mem_append.1 hin with h | h
      · have := (List.pairwise_append.1 hr).2.2 _ h _ (List.mem_singleton.2 rfl)
        simp only at this
        omega
      · have := List.mem_singleton.1 h
        rw [← this] at hl
        simp only at hl
        omega
  | cons b r ih =>
    intro out ho
    have hol : out.length < s.length := by have := congrArg List.length ho; simp at this; omega
    have hr2 := hr
    rw [ho] at hr2
    obtain ⟨p1, p2, p3⟩ := List.pairwise_append.1 hr2
    have hbM : b ∈ startM s := by rw [ho]; simp
    have hgb : getM s b.f0 = some b.f1 := by rw [← getM_start]; exact rising_getM hr hbM
    have hbs := getM_mem hgb
    obtain ⟨j0, hj0, e0⟩ := List.getElem_of_mem hbs
    have hfb : freshV out b.f0 := fun z hz => p3 z (List.mem_of_getLast? hz) b (List.mem_cons_self)
    have ef : s[j0].f0 = b.f0 := by rw [e0]
    obtain ⟨a', h', hs⟩ := scan_f s out (by omega) (by omega) s.length 0 (-1) (by omega) (.inl ⟨rfl, fun j h hj => by omega⟩)
    rcases h' with ⟨rfl, hno⟩ | ⟨j, hj, rfl, _, hf, hmin, hfst⟩
    · exact absurd (by rw [ef]; exact hfb) (hno j0 hj0 hj0)
    · have hle := hmin j0 hj0 hj0 (by rw [ef]; exact hfb)
      obtain ⟨t, ht⟩ := getM_has (List.getElem_mem hj)
      have hin := getM_mem (m := startM s) (by rw [getM_start]; exact ht)
      rw [ho] at hin
      have hge : b.f0 ≤ s[j].f0 := by
        rcases List.mem_append.1 hin with h | h
        · exfalso
          have hne : out ≠ [] := fun h2 => by rw [h2] at h; simp at h
          have hl := hf _ (List.getLast?_eq_some_getLast hne)
          have hsplit := List.dropLast_concat_getLast hne
          rw [← hsplit] at h p1
          rcases List.mem_append.1 h with h | h
          · have := (List.pairwise_append.1 p1).2.2 _ h _ (List.mem_singleton.2 rfl)
            simp only at this
            omega
          · have := List.mem_singleton.1 h
            rw [← this] at hl
            simp only at hl
            omega
        · rcases List.mem_cons.1 h with h | h
          · rw [← h]; exact Int.le_refl _
          · have := (List.pairwise_cons.1 p2).1 _ h
            simp only at this
            omega
      have e1 : s[j].f0 = b.f0 := by omega
      have e2 : s[j] = b := by
        have h1 := getM_first s j hj hfst
        rw [e1, hgb] at h1
        injection h1 with h1
        cases h : s[j] with
        | mk x y =>
          rw [h] at e1 h1
          cases b
          simp only at e1 h1
          rw [e1, h1]
      obtain ⟨K, hK⟩ := ih (out ++ [b]) (by rw [ho]; simp)
      refine ⟨K + s.length + 2, fun k hk => ?_⟩
      obtain ⟨k, rfl⟩ : ∃ m, k = m + s.length + 1 + 1 := ⟨k - s.length - 2, by omega⟩
      rw [hearsayref02_Settled.l0]
      have := hs k
      simp only [Int.natCast_zero] at this
      rw [this]
      unfold scanEnd
      rw [if_neg (by omega), if_pos (by omega), if_pos (by omega), if_pos (by omega), rd_at44 s j hj, e2]
      exact hK k (by omega)
end Go.Proofs.YtnomgmlfagiffaaDoor.T
/- The document's Match is the program's. -/
set_option linter.unusedVariables false
set_option linter.unusedSimpArgs false
namespace Go.Proofs.YtnomgmlfagiffaaDoor.T
open Go.RowKit Go.Lib Go.Proofs.YtnomgmlfagiffaaDoorW.PrintWords Go.Proofs.YtnomgmlfagiffaaDoor.Hs
theorem rplaces_f (t : Tm) (nm : ByteArray) (l : List Tm) (ll : l.length < smallN) : hearsayref02_Places.f t.f0 t.f1 t.f2 nm l = some (t :: l) := by
  unfold hearsayref02_Places.f
  simp only [Option.bind_some]
  rw [if_pos (by simp [smallN] at ll; simp; omega)]
  rfl
end Go.Proofs.YtnomgmlfagiffaaDoor.T
/- Calls of slices.ContainsFunc and CompareFunc with package term's own functions. -/
set_option linter.unusedVariables false
set_option linter.unusedSimpArgs false
namespace Go.Proofs.YtnomgmlfagiffaaDoor.T
open Go.RowKit Go.Proofs.YtnomgmlfagiffaaDoorW.PrintWords Go.Proofs.YtnomgmlfagiffaaDoorW.PrintLast
def badT (t : Tm) : Bool := !isConst t && !isVar t
set_option maxRecDepth 100000 in
theorem bad_calls (x : Tm) (w : World) :
    Calls Tryd.prog 71 #[.agg #[.int .i64 x.f0, .int .i64 x.f1, .string x.f2]] w fun e w' => e = .returned (.bool (badT x)) ∧ Below w.heap.size w w' := by
  have hu23 := Tryd.underlying23
  have HB := Aside0.mk (Below.refl w.heap.size w)
  cases hc : isConst x with
  | true =>
    have A1 := Aside0.mk ((const_f x).trans (congrArg some hc))
    have E := Aside0.mk (show badT x = false by simp [badT, hc])
    clear hc
    go_enter Tryd.func71, Tryd.ntmps71
    go_wp2_with (first | ((with_reducible refine gate_dst (N := 1) rfl ?_); refine box_event ?hg (N := 1) ?hd (cs := #[.int .i64 x.f0, .int .i64 x.f1, .string x.f2]) (t := 23) ?hr ?_; (case hd => rfl); (case hg => rfl); (case hr => first | (go_simp; done) | (go_simp; rfl)); intro b1 hb1 w1 hbox hb; have K1 := Aside0.mk hbox; have HB1 := Aside0.mk hb; clear hb1 hbox hb; have p0 := (blk_cell K1.out 0).trans rfl; have p1 := (blk_cell K1.out 1).trans rfl; have p2 := (blk_cell K1.out 2).trans rfl) | (go_at_call 37; (with_reducible refine (term_Const.calls x.f0 x.f1 x.f2 true _ A1.out).mono ?_); rintro e w2 ⟨rfl, hb⟩; have HB2 := Aside0.mk (below_step HB1.out hb); clear hb p0 p1 p2) | go_in)
    go_ret
    exact ⟨by rw [E.out]; rfl, HB2.out⟩
  | false =>
    have A1 := Aside0.mk ((const_f x).trans (congrArg some hc))
    have A2 := Aside0.mk (var_f x)
    have E := Aside0.mk (show badT x = !isVar x by simp [badT, hc])
    clear hc
    go_enter Tryd.func71, Tryd.ntmps71
    go_wp2_with (first | ((with_reducible refine gate_dst (N := 1) rfl ?_); refine box_event ?hg (N := 1) ?hd (cs := #[.int .i64 x.f0, .int .i64 x.f1, .string x.f2]) (t := 23) ?hr ?_; (case hd => rfl); (case hg => rfl); (case hr => first | (go_simp; done) | (go_simp; rfl)); intro b1 hb1 w1 hbox hb; have K1 := Aside0.mk hbox; have HB1 := Aside0.mk hb; clear hb1 hbox hb; have p0 := (blk_cell K1.out 0).trans rfl; have p1 := (blk_cell K1.out 1).trans rfl; have p2 := (blk_cell K1.out 2).trans rfl) | (go_at_call 37; (with_reducible refine (term_Const.calls x.f0 x.f1 x.f2 false _ A1.out).mono ?_); rintro e w2 ⟨rfl, hb⟩; have HB2 := Aside0.mk (below_step HB1.out hb); have K2 := Aside0.mk (blk_below K1.out hb); clear hb p0 p1 p2; have q0 := (blk_cell K2.out 0).trans rfl; have q1 := (blk_cell K2.out 1).trans rfl; have q2 := (blk_cell K2.out 2).trans rfl) | (go_at_call 27; (with_reducible refine (term_Variable.calls x.f0 x.f1 x.f2 (isVar x) _ A2.out).mono ?_); rintro e w3 ⟨rfl, hb⟩; have HB3 := Aside0.mk (below_step HB2.out hb); clear hb) | go_in)
    go_ret
    exact ⟨by rw [E.out]; rfl, HB3.out⟩
def slices_ContainsFunc_bad.f (l : List Tm) : Option Bool := if (l.all okT && decide (l.length < smallN)) = true then some (l.any badT) else none
def slices_ContainsFunc_var.f (l : List Tm) : Option Bool := if (l.all okT && decide (l.length < smallN)) = true then some (l.any isVar) else none
def slices_CompareFunc_term.f (l m : List Tm) : Option Int := if (l.all okT && (m.all okT && decide (l.length ≤ 9223372036854775807))) = true then some (cmpL cmpT l m) else none
theorem slices_ContainsFunc_bad.calls (A0 : Option Addr) (c0 : Nat) (l0 : List Tm) (r : Bool) (w : World) (hr0 : Kd.C k23 w A0 l0.length l0) (hc0 : l0.length ≤ c0) (h : slices_ContainsFunc_bad.f l0 = some r) :
    Calls Tryd.prog 70 #[.slice A0 l0.length c0, .func (.func 71) #[] #[]] w fun e w' => e = .returned (.bool r) ∧ Below w.heap.size w w' := by
  unfold slices_ContainsFunc_bad.f at h
  by_cases hc : (l0.all okT && decide (l0.length < smallN)) = true
  · rw [if_pos hc] at h
    obtain rfl := Option.some.inj h
    simp only [Bool.and_eq_true, decide_eq_true_eq] at hc
    exact hasF_calls badT 71 (enters_of Tryd.func71 (by kernel_rfl) rfl) A0 c0 l0 w hr0 hc0 hc.1 (by have := hc.2; simp only [smallN] at this; omega) (fun x W _ _ => bad_calls x W)
  · rw [if_neg hc] at h; cases h
theorem slices_ContainsFunc_var.calls (A0 : Option Addr) (c0 : Nat) (l0 : List Tm) (r : Bool) (w : World) (hr0 : Kd.C k23 w A0 l0.length l0) (hc0 : l0.length ≤ c0) (h : slices_ContainsFunc_var.f l0 = some r) :
    Calls Tryd.prog 70 #[.slice A0 l0.length c0, .func (.func 27) #[] #[]] w fun e w' => e = .returned (.bool r) ∧ Below w.heap.size w w' := by
  unfold slices_ContainsFunc_var.f at h
  by_cases hc : (l0.all okT && decide (l0.length < smallN)) = true
  · rw [if_pos hc] at h
    obtain rfl := Option.some.inj h
    simp only [Bool.and_eq_true, decide_eq_true_eq] at hc
    exact hasF_calls isVar 27 (enters_of Tryd.func27 (by kernel_rfl) rfl) A0 c0 l0 w hr0 hc0 hc.1 (by have := hc.2; simp only [smallN] at this; omega) (fun x W _ _ => term_Variable.calls x.f0 x.f1 x.f2 (isVar x) W (var_f x))
  · rw [if_neg hc] at h; cases h
theorem slices_CompareFunc_term.calls (A0 : Option Addr) (c0 : Nat) (l0 : List Tm) (A1 : Option Addr) (c1 : Nat) (l1 : List Tm) (r : Int) (w : World) (hr0 : Kd.C k23 w A0 l0.length l0) (hc0 : l0.length ≤ c0) (hr1 : Kd.C k23 w A1 l1.length l1) (hc1 : l1.length ≤ c1) (h : slices_CompareFunc_term.f l0 l1 = some r) :
    Calls Tryd.prog 77 #[.slice A0 l0.length c0, .slice A1 l1.length c1, .func (.func 67) #[] #[]] w fun e w' => e = .returned (.int .i64 r) ∧ Below w.heap.size w w' := by
  unfold slices_CompareFunc_term.f at h
  by_cases hc : (l0.all okT && (l1.all okT && decide (l0.length ≤ 9223372036854775807))) = true
  · rw [if_pos hc] at h
    obtain rfl := Option.some.inj h
    simp only [Bool.and_eq_true, decide_eq_true_eq] at hc
    exact cmpF_calls cmpT 67 (enters_of Tryd.func67 (by kernel_rfl) rfl) A0 c0 l0 A1 c1 l1 w hr0 hc0 hr1 hc1 hc.1 hc.2.1 hc.2.2 (fun x y W _ _ _ => term_Compare.calls 4 x.f0 x.f1 x.f2 y.f0 y.f1 y.f2 (cmpT x y) W (cmpT_f x y 0))
  · rw [if_neg hc] at h; cases h
end Go.Proofs.YtnomgmlfagiffaaDoor.T
/- CheckAtom, Fact, Vars, CompareAtoms in closed form: the program's and the document's are the same. -/
set_option linter.unusedVariables false
set_option linter.unusedSimpArgs false
namespace Go.Proofs.YtnomgmlfagiffaaDoor.T
open Go.RowKit Go.Lib Go.Proofs.YtnomgmlfagiffaaDoorW.PrintWords Go.Proofs.YtnomgmlfagiffaaDoor.Hs
theorem rprin_f (t : Tm) : hearsayref02_Principal.f t.f0 t.f1 t.f2 = some (isPrin t) := by
  unfold hearsayref02_Principal.f isPrin
  rw [rconst_f]
  cases isConst t
  · simp
  · by_cases h : t.f0 = 2 <;> simp [h]
end Go.Proofs.YtnomgmlfagiffaaDoor.T
/- The document's Unify in closed form: the program's and the document's are the same. -/
set_option linter.unusedVariables false
set_option linter.unusedSimpArgs false
namespace Go.Proofs.YtnomgmlfagiffaaDoor.T
open Go.RowKit Go.Lib Go.Proofs.YtnomgmlfagiffaaDoorW.PrintWords Go.Proofs.YtnomgmlfagiffaaDoor.Hs
open Classical in
/-- What a place is refused for, by its class's fixed terms. -/
def badU (t u z : Tm) (F : List Tm) : Prop := 1 < F.length ∨ ((z = t ∨ z = u) ∧ isVar z = true ∧ ∃ c, F = [c] ∧ isPrin c = false)
open Classical in
theorem unify_round (t u : Tm) (nm nn : ByteArray) (l m : List Tm) (x y A : List Tm) (S : List Bd) (i : Nat) (L : List Tm) (k : Nat) (hi : i < A.length) (lA : A.length < smallN) (lS : S.length < smallN) (hL0 : L ≠ []) (ll : L.length < smallN) (hk : L.length + 1 ≤ k)
    (hC : hearsayref02_Class.f (k + 2) x y A[i].f0 A[i].f1 A[i].f2 = some L) :
    hearsayref02_Unify.l0 (k + 3) x y A S (i : Int) t.f0 t.f1 t.f2 nm l u.f0 u.f1 u.f2 nn m =
      if badU t u A[i] (L.filter fun z => !isVar z) then some ([], false)
      else hearsayref02_Unify.l0 k x y A (if isVar A[i] = true ∧ standsT L ≠ A[i] then S ++ [⟨A[i].f1, standsT L⟩] else S) ((i + 1 : Nat) : Int) t.f0 t.f1 t.f2 nm l u.f0 u.f1 u.f2 nn m := by
  have hw : wrap64 ((i : Int) + 1) = ((i + 1 : Nat) : Int) := wrap_succ i (by omega)
  rw [hearsayref02_Unify.l0, if_pos (by omega), if_pos (by omega), rd_at23 A i hi, hC]
  simp only [Option.bind_some]
  rw [fixed_f L ll _ (by omega)]
  simp only [Option.bind_some]
  generalize hF : (L.filter fun z => !isVar z) = F
  have h3 : ∀ fl : Bool, (fl = true ↔ badU t u A[i] F) → hearsayref02_Unify.j3 (k + 1) x y A S (i : Int) L fl t.f0 t.f1 t.f2 nm l u.f0 u.f1 u.f2 nn m =
      if badU t u A[i] F then some ([], false)
      else hearsayref02_Unify.l0 k x y A (if isVar A[i] = true ∧ standsT L ≠ A[i] then S ++ [⟨A[i].f1, standsT L⟩] else S) ((i + 1 : Nat) : Int) t.f0 t.f1 t.f2 nm l u.f0 u.f1 u.f2 nn m := by
    intro fl hfl
    rw [hearsayref02_Unify.j3]
    by_cases hb : badU t u A[i] F
    · rw [if_pos (hfl.2 hb), if_pos hb]
    · rw [if_neg (fun h => hb (hfl.1 h)), if_neg hb, if_pos (by omega), if_pos (by omega), rd_at23 A i hi, rvar_f]
      simp only [Option.bind_some]
      cases hv : isVar A[i] with
      | false =>
        simp only [Bool.false_eq_true, if_false, false_and]
        rw [hw]
      | true =>
        simp only [if_true, true_and]
        rw [stands_f L hL0 ll k hk]
        simp only [Option.bind_some]
        have hneg : (!((standsT L).f0 == A[i].f0) || (!((standsT L).f1 == A[i].f1) || (!((standsT L).f2.toList == A[i].f2.toList)))) = !decide (standsT L = A[i]) := by
          rw [← eqT_fields]
          cases ((standsT L).f0 == A[i].f0) <;> cases ((standsT L).f1 == A[i].f1) <;> cases ((standsT L).f2.toList == A[i].f2.toList) <;> rfl
        rw [hneg]
        by_cases he : standsT L = A[i]
        · rw [decide_eq_true he, if_neg (by simp), if_neg (by simp [he]), hw]
        · rw [decide_eq_false he, if_pos (by simp), if_pos he, if_pos (by simp only [smallN] at lS; omega), hw]
  have h2 : ∀ fl : Bool, fl = decide (A[i] = t ∨ A[i] = u) → hearsayref02_Unify.j2 (k + 2) x y A S (i : Int) L F fl t.f0 t.f1 t.f2 nm l u.f0 u.f1 u.f2 nn m =
      if badU t u A[i] F then some ([], false)
      else hearsayref02_Unify.l0 k x y A (if isVar A[i] = true ∧ standsT L ≠ A[i] then S ++ [⟨A[i].f1, standsT L⟩] else S) ((i + 1 : Nat) : Int) t.f0 t.f1 t.f2 nm l u.f0 u.f1 u.f2 nn m := by
    intro fl hfl
    rw [hearsayref02_Unify.j2]
    by_cases h1 : (F.length : Int) > 1
    · rw [if_pos h1]
      exact h3 true ⟨fun _ => Or.inl (by omega), fun _ => rfl⟩
    · rw [if_neg h1]
      by_cases hby : A[i] = t ∨ A[i] = u
      · rw [hfl, decide_eq_true hby, if_pos rfl, if_pos (by omega), if_pos (by omega), rd_at23 A i hi, rvar_f]
        simp only [Option.bind_some]
        by_cases hv : isVar A[i] = true
        rotate_left
        · rw [if_neg hv]
          refine h3 false ⟨fun h => (by cases h), ?_⟩
          rintro (h | ⟨_, h, _⟩)
          · omega
          · exact absurd h hv
        · rw [if_pos hv]
          by_cases he : (F.length : Int) = 1
          · obtain ⟨c, rfl⟩ : ∃ c, F = [c] := List.length_eq_one_iff.1 (by omega)
            rw [if_pos he, if_pos (by simp)]
            have e : rd_T23 [c] 0 = c := by simp [rd_T23]
            rw [e, rprin_f]
            simp only [Option.bind_some]
            refine h3 _ ?_
            cases hp : isPrin c with
            | true =>
              refine ⟨fun h => (by cases h), ?_⟩
              rintro (h | ⟨_, _, d, h, hd⟩)
              · simp at h
              · simp at h; subst h; rw [hp] at hd; cases hd
            | false => exact ⟨fun _ => Or.inr ⟨hby, hv, c, rfl, hp⟩, fun _ => rfl⟩
          · rw [if_neg he]
            refine h3 false ⟨fun h => (by cases h), ?_⟩
            rintro (h | ⟨_, _, d, rfl, _⟩)
            · omega
            · simp at he
      · rw [hfl, decide_eq_false hby, if_neg (by simp)]
        refine h3 false ⟨fun h => (by cases h), ?_⟩
        rintro (h | ⟨h, _⟩)
        · omega
        · exact absurd h hby
  rw [eqT_fields, eqT_fields]
  by_cases ht : A[i] = t
  · rw [if_pos (decide_eq_true ht)]
    exact h2 true (decide_eq_true (Or.inl ht)).symm
  · rw [if_neg (by simp [ht])]
    exact h2 _ (by simp [ht])
open Classical in
/-- What the places say so far. -/
noncomputable def sayU (r : Tm → Tm) (L : List Tm) : List Bd := L.filterMap fun z => if isVar z = true ∧ r z ≠ z then some ⟨z.f1, r z⟩ else none
theorem sayU_len (r : Tm → Tm) (L : List Tm) : (sayU r L).length ≤ L.length := List.length_filterMap_le _ _
theorem sayU_get (r : Tm → Tm) (v : Int) : ∀ L : List Tm, getM (sayU r L) v = if ((L.any fun t => isVar t && (t.f1 == v)) && !eqT (r ⟨3, v, ⟨#[]⟩⟩) ⟨3, v, ⟨#[]⟩⟩) = true then some (r ⟨3, v, ⟨#[]⟩⟩) else none
  | [] => by simp [sayU, getM_nil]
  | z :: L => by
    have ih := sayU_get r v L
    unfold sayU at ih ⊢
    rw [List.filterMap_cons, List.any_cons]
    by_cases hz : isVar z = true ∧ r z ≠ z
    · rw [if_pos hz]
      simp only
      rw [getM_cons]
      by_cases hv : z.f1 = v
      · have ez := isVar_eq hz.1
        rw [if_pos hv]
        rw [hv] at ez
        have hne : eqT (r ⟨3, v, ⟨#[]⟩⟩) ⟨3, v, ⟨#[]⟩⟩ = false := by
          cases e : eqT (r ⟨3, v, ⟨#[]⟩⟩) ⟨3, v, ⟨#[]⟩⟩ with
          | false => rfl
          | true => exact absurd ((eqT_iff _ _).1 e) (by rw [← ez]; exact hz.2)
        rw [hne, hz.1, ← ez]
        simp [hv]
      · rw [if_neg hv, ih]
        have : (z.f1 == v) = false := by simpa using hv
        rw [this]
        simp
    · rw [if_neg hz]
      simp only
      rw [ih]
      by_cases hv : isVar z = true ∧ z.f1 = v
      · have ez := isVar_eq hv.1
        rw [hv.2] at ez
        have he : r z = z := Classical.byContradiction fun h => hz ⟨hv.1, h⟩
        have : eqT (r ⟨3, v, ⟨#[]⟩⟩) ⟨3, v, ⟨#[]⟩⟩ = true := (eqT_iff _ _).2 (by rw [← ez]; exact he)
        rw [this]
        simp
      · have : (isVar z && (z.f1 == v)) = false := by
          cases h2 : isVar z with
          | false => rfl
          | true => simp only [Bool.true_and, beq_eq_false_iff_ne]; exact fun e => hv ⟨h2, e⟩
        rw [this]
        simp
theorem Uni.say {P Q : List Tm} {r : Tm → Tm} {m : List Bd} (h : Uni P Q r m) : startM (sayU r (P ++ Q)) = m :=
  rising_ext (startM_rising _) h.ris (fun v => by rw [getM_start, sayU_get, h.get])
open Classical in
theorem runify_true (t u : Tm) (nm nn : ByteArray) (l m : List Tm) {P Q : List Tm} {r : Tm → Tm} {b : List Bd} (h : Uni P Q r b) (hPQ : P.length = Q.length) (hx : 8 * P.length + 8 < smallN) (hq : ∀ z, (z = t ∨ z = u) → isVar z = true → isVar (r z) = true ∨ isPrin (r z) = true) :
    ∀ (n i : Nat), (P ++ Q).length = i + n → ∃ K, ∀ k, K ≤ k → hearsayref02_Unify.l0 k P Q (P ++ Q) (sayU r ((P ++ Q).take i)) (i : Int) t.f0 t.f1 t.f2 nm l u.f0 u.f1 u.f2 nn m = some (b, true) := by
  have hAl : (P ++ Q).length = P.length + Q.length := List.length_append
  intro n
  induction n with
  | zero =>
    intro i hi
    obtain ⟨K, hK⟩ := settled_f (sayU r (P ++ Q)) (by have := sayU_len r (P ++ Q); simp only [smallN] at hx; omega)
    refine ⟨K + 1, fun k hk => ?_⟩
    obtain ⟨k, rfl⟩ : ∃ j, k = j + 1 := ⟨k - 1, by omega⟩
    rw [hearsayref02_Unify.l0, if_neg (by omega), List.take_of_length_le (by omega), hK k (by omega)]
    simp only [Option.bind_some]
    rw [h.say]
  | succ n ih =>
    intro i hi
    have hlt : i < (P ++ Q).length := by omega
    obtain ⟨K, hK⟩ := ih (i + 1) (by omega)
    obtain ⟨L, hL, KC, hC⟩ := class_f P Q hPQ hx (P ++ Q)[i]
    have hLn : L ≠ [] := fun e => by
      have : (P ++ Q)[i] ∈ L := (hL.mem _).2 (.refl _)
      rw [e] at this; simp at this
    refine ⟨K + KC + L.length + 8, fun k hk => ?_⟩
    obtain ⟨k, rfl⟩ : ∃ j, k = j + 3 := ⟨k - 3, by omega⟩
    have hlen := hL.len
    have hts := (sayU_len r ((P ++ Q).take i))
    rw [unify_round t u nm nn l m P Q (P ++ Q) (sayU r ((P ++ Q).take i)) i L k hlt (by omega) (by rw [List.length_take] at hts; omega) hLn (by omega) (by omega) (hC _ (by omega)), if_neg ?_]
    · rw [h.stands hL]
      have e : (if isVar (P ++ Q)[i] = true ∧ r (P ++ Q)[i] ≠ (P ++ Q)[i] then sayU r ((P ++ Q).take i) ++ [⟨(P ++ Q)[i].f1, r (P ++ Q)[i]⟩] else sayU r ((P ++ Q).take i)) = sayU r ((P ++ Q).take (i + 1)) := by
        rw [List.take_succ_eq_append_getElem hlt]
        unfold sayU
        rw [List.filterMap_append, List.filterMap_cons, List.filterMap_nil]
        by_cases hc : isVar (P ++ Q)[i] = true ∧ r (P ++ Q)[i] ≠ (P ++ Q)[i]
        · rw [if_pos hc, if_pos hc]
        · rw [if_neg hc, if_neg hc]; simp
      rw [e]
      exact hK k (by omega)
    · have hfix : ∀ c ∈ (L.filter fun z => !isVar z), c = r (P ++ Q)[i] := fun c hc => by
        simp only [List.mem_filter, Bool.not_eq_true'] at hc
        have := (h.same _ _).2 ((hL.mem c).1 hc.1)
        rw [h.fix hc.2] at this
        exact this.symm
      rintro (h1 | ⟨h1, h2, c, h3, h4⟩)
      · have hn := hL.nodup.filter (fun z => !isVar z)
        generalize (L.filter fun z => !isVar z) = F at *
        match F, h1 with
        | a :: b :: F, _ =>
          rw [hfix a (by simp), hfix b (by simp)] at hn
          simp at hn
      · have hc : c ∈ (L.filter fun z => !isVar z) := by rw [h3]; simp
        have hcv : isVar c = false := by simp only [List.mem_filter, Bool.not_eq_true'] at hc; exact hc.2
        have e := hfix c hc
        have := hq _ h1 h2
        rw [← e, hcv, h4] at this
        simp at this
theorem ln_in {P Q : List Tm} {s u : Tm} (h : Ln (fun t u => (t, u) ∈ P.zip Q) s u) : s = u ∨ (s ∈ P ++ Q ∧ u ∈ P ++ Q) := by
  induction h with
  | rel h => have := zip_both h; exact Or.inr ⟨by simp [this.1], by simp [this.2]⟩
  | refl => exact Or.inl rfl
  | symm _ ih => exact ih.elim (fun h => Or.inl h.symm) (fun h => Or.inr ⟨h.2, h.1⟩)
  | trans _ _ i1 i2 =>
    rcases i1 with rfl | i1
    · exact i2
    · rcases i2 with rfl | i2
      · exact Or.inr i1
      · exact Or.inr ⟨i1.1, i2.2⟩
open Classical in
theorem runify_false (t u : Tm) (nm nn : ByteArray) (l m : List Tm) {P Q : List Tm} (hPQ : P.length = Q.length) (hx : 8 * P.length + 8 < smallN) (i0 : Nat) (h0 : i0 < (P ++ Q).length) (hbad : ∀ L, ClsOf P Q (P ++ Q)[i0] L → badU t u (P ++ Q)[i0] (L.filter fun z => !isVar z)) :
    ∀ (n i : Nat) (S : List Bd), i0 = i + n → S.length ≤ i → ∃ K, ∀ k, K ≤ k → hearsayref02_Unify.l0 k P Q (P ++ Q) S (i : Int) t.f0 t.f1 t.f2 nm l u.f0 u.f1 u.f2 nn m = some ([], false) := by
  have hAl : (P ++ Q).length = P.length + Q.length := List.length_append
  intro n
  induction n with
  | zero =>
    intro i S hi hS
    obtain rfl : i0 = i := by omega
    obtain ⟨L, hL, KC, hC⟩ := class_f P Q hPQ hx (P ++ Q)[i0]
    have hLn : L ≠ [] := fun e => by
      have : (P ++ Q)[i0] ∈ L := (hL.mem _).2 (.refl _)
      rw [e] at this; simp at this
    have hlen := hL.len
    refine ⟨KC + L.length + 8, fun k hk => ?_⟩
    obtain ⟨k, rfl⟩ : ∃ j, k = j + 3 := ⟨k - 3, by omega⟩
    rw [unify_round t u nm nn l m P Q (P ++ Q) S i0 L k h0 (by omega) (by omega) hLn (by omega) (by omega) (hC _ (by omega)), if_pos (hbad L hL)]
  | succ n ih =>
    intro i S hi hS
    have hlt : i < (P ++ Q).length := by omega
    obtain ⟨L, hL, KC, hC⟩ := class_f P Q hPQ hx (P ++ Q)[i]
    have hLn : L ≠ [] := fun e => by
      have : (P ++ Q)[i] ∈ L := (hL.mem _).2 (.refl _)
      rw [e] at this; simp at this
    have hlen := hL.len
    obtain ⟨K, hK⟩ := ih (i + 1) (if isVar (P ++ Q)[i] = true ∧ standsT L ≠ (P ++ Q)[i] then S ++ [⟨(P ++ Q)[i].f1, standsT L⟩] else S) (by omega) (by split <;> (try simp) <;> omega)
    refine ⟨K + KC + L.length + 8, fun k hk => ?_⟩
    obtain ⟨k, rfl⟩ : ∃ j, k = j + 3 := ⟨k - 3, by omega⟩
    rw [unify_round t u nm nn l m P Q (P ++ Q) S i L k hlt (by omega) (by omega) hLn (by omega) (by omega) (hC _ (by omega))]
    by_cases hb : badU t u (P ++ Q)[i] (L.filter fun z => !isVar z)
    · rw [if_pos hb]
    · rw [if_neg hb]
      exact hK k (by omega)
theorem runify_f (t u : Tm) (nm nn : ByteArray) (l m : List Tm) (hx : 8 * l.length + 8 * m.length + 24 < smallN) :
    ∃ K, ∀ k, K ≤ k → hearsayref02_Unify.f k t.f0 t.f1 t.f2 nm l u.f0 u.f1 u.f2 nn m = some (unifyL nm l nn m t u) := by
  have stop : ∀ k, 1 ≤ k → hearsayref02_Unify.j0 k true t.f0 t.f1 t.f2 nm l u.f0 u.f1 u.f2 nn m = some ([], false) := by
    intro k hk
    obtain ⟨k, rfl⟩ : ∃ j, k = j + 1 := ⟨k - 1, by omega⟩
    rw [hearsayref02_Unify.j0, if_pos rfl]
  by_cases hn : nm.toList = nn.toList
  · by_cases hl : l.length = m.length
    · have go : ∀ R, (∃ K, ∀ k, K ≤ k → hearsayref02_Unify.l0 k (t :: l) (u :: m) ((t :: l) ++ (u :: m)) [] ((0 : Nat) : Int) t.f0 t.f1 t.f2 nm l u.f0 u.f1 u.f2 nn m = some R) → ∃ K, ∀ k, K ≤ k → hearsayref02_Unify.f k t.f0 t.f1 t.f2 nm l u.f0 u.f1 u.f2 nn m = some R := by
        rintro R ⟨K, hK⟩
        refine ⟨K + 1, fun k hk => ?_⟩
        obtain ⟨k, rfl⟩ : ∃ j, k = j + 1 := ⟨k - 1, by omega⟩
        unfold hearsayref02_Unify.f
        rw [if_pos hn, show ((l.length : Int) != (m.length : Int)) = false by simp [hl], hearsayref02_Unify.j0, if_neg (by simp), rplaces_f t nm l (by omega)]
        simp only [Option.bind_some]
        rw [rplaces_f u nn m (by omega)]
        simp only [Option.bind_some]
        rw [if_pos (by simp only [smallN] at hx; simp; omega)]
        exact hK k (by omega)
      refine go _ ?_
      rcases unifyL_spec nm nn l m t u with ⟨h1, hw⟩ | ⟨b, r, h1, _, _, hu, hq⟩
      · rw [h1]
        have key : ∃ z ∈ (t :: l) ++ (u :: m), ∀ L, ClsOf (t :: l) (u :: m) z L → badU t u z (L.filter fun z => !isVar z) := by
          rcases hw with h | h | ⟨a, b, ha, hb, hne, h⟩ | ⟨z, hz, hv, c, hc, hp, h⟩
          · exact absurd hn h
          · exact absurd hl h
          · refine ⟨a, (ln_in h).elim (fun e => absurd e hne) (fun h => h.1), fun L hL => Or.inl ?_⟩
            have m1 : a ∈ L.filter fun z => !isVar z := List.mem_filter.2 ⟨(hL.mem _).2 (.refl _), by simp [ha]⟩
            have m2 : b ∈ L.filter fun z => !isVar z := List.mem_filter.2 ⟨(hL.mem _).2 h, by simp [hb]⟩
            match hF : (L.filter fun z => !isVar z) with
            | [] => rw [hF] at m1; simp at m1
            | [d] => rw [hF] at m1 m2; simp at m1 m2; exact absurd (m1.trans m2.symm) hne
            | d :: e :: F => simp
          · refine ⟨z, by rcases hz with rfl | rfl <;> simp, fun L hL => ?_⟩
            have m2 : c ∈ L.filter fun z => !isVar z := List.mem_filter.2 ⟨(hL.mem _).2 h, by simp [hc]⟩
            match hF : (L.filter fun z => !isVar z) with
            | [] => rw [hF] at m2; simp at m2
            | [d] => rw [hF] at m2; simp at m2; exact Or.inr ⟨hz, hv, d, rfl, by rw [← m2]; exact hp⟩
            | d :: e :: F => exact Or.inl (by simp)
        obtain ⟨z, hz, hb⟩ := key
        obtain ⟨i0, hi0, rfl⟩ := List.getElem_of_mem hz
        exact runify_false t u nm nn l m (by simp [hl]) (by simp; omega) i0 hi0 hb i0 0 [] (by omega) (by simp)
      · rw [h1]
        have := runify_true t u nm nn l m hu (by simp [hl]) (by simp; omega) hq ((t :: l) ++ (u :: m)).length 0 (by omega)
        simpa [sayU] using this
    · have e : unifyL nm l nn m t u = ([], false) := by unfold unifyL; rw [if_pos (Or.inr hl)]
      refine ⟨1, fun k hk => ?_⟩
      rw [e]
      unfold hearsayref02_Unify.f
      rw [if_pos hn, show ((l.length : Int) != (m.length : Int)) = true by simp; omega]
      exact stop k hk
  · have e : unifyL nm l nn m t u = ([], false) := by unfold unifyL; rw [if_pos (Or.inl hn)]
    refine ⟨1, fun k hk => ?_⟩
    rw [e]
    unfold hearsayref02_Unify.f
    rw [if_neg hn]
    exact stop k hk
end Go.Proofs.YtnomgmlfagiffaaDoor.T
