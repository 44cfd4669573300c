/- PureSi; PureFirst; PureS; PureTermSided: texts of this claim, laid together. -/
import Derived.Test.YtnomgmlfagiffaaM0Sd
import Derived.Test.YtnomgmlfagiffaaM7Sd
import Derived.Test.YtnomgmlfagiffaaM3Sd
import Derived.Test.YtnomgmlfagiffaaM2Sd
import Derived.Lib.Bytealg
import Derived.Lib.Small
import Derived.Test.YtnomgmlfagiffaaM4Sd
/- Matching and unifying, plainly: against places without variables they are one. -/
set_option linter.unusedVariables false
set_option linter.unusedSimpArgs false
namespace Go.Proofs.Ytnomgmlfagiffaa.T
open Go.RowKit Go.Lib Go.Proofs.YtnomgmlfagiffaaW.PrintWords Go.Proofs.Ytnomgmlfagiffaa.Hs
theorem get_grow2 (B : Tm → Tm) (v : Int) : ∀ (P : List Tm) (s0 : List Bd), getM (growB P (P.map B) s0) v = (getM s0 v).or (if (P.any fun t => isVar t && (t.f1 == v)) = true then some (B ⟨3, v, ⟨#[]⟩⟩) else none)
  | [], s0 => by simp [growB]
  | t :: P, s0 => by
    rw [List.map_cons, growB_cons, get_grow2 B v P, List.any_cons]
    cases hv : isVar t with
    | false => simp
    | true =>
      by_cases e : t.f1 = v
      · have et : t = ⟨3, v, ⟨#[]⟩⟩ := by rw [← e]; exact isVar_eq hv
        cases hg : getM s0 v with
        | some w =>
          rw [e, hg]
          simp [hg]
        | none =>
          rw [e, hg]
          simp only [Option.isNone_none, Bool.and_self, if_true]
          rw [getM_app, hg, getM_cons, if_pos rfl]
          simp [← et]
      · have eb : (t.f1 == v) = false := by simpa using e
        rw [eb]
        by_cases hn : (getM s0 t.f1).isNone = true
        · rw [hn]
          simp only [Bool.and_self, if_true, Bool.and_false, Bool.false_or]
          rw [getM_app, getM_cons, if_neg e, getM_nil]
          simp
        · rw [Bool.eq_false_iff.2 hn]
          simp
theorem vars_mono : ∀ (P : List Tm) (out : List Int), ∃ e, varsL P out = out ++ e
  | [], out => ⟨[], by simp [varsL]⟩
  | t :: P, out => by
    have h : varsL (t :: P) out = varsL P (if isVar t && !out.contains t.f1 then out ++ [t.f1] else out) := rfl
    rw [h]
    by_cases hc : (isVar t && !out.contains t.f1) = true
    · rw [if_pos hc]
      obtain ⟨e, he⟩ := vars_mono P (out ++ [t.f1])
      exact ⟨[t.f1] ++ e, by rw [he, List.append_assoc]⟩
    · rw [if_neg hc]
      exact vars_mono P out
theorem vars_none : ∀ (P : List Tm), varsL P [] = [] → ∀ t ∈ P, isVar t = false
  | [], _, t, ht => by simp at ht
  | a :: P, h, t, ht => by
    have h1 : varsL (a :: P) [] = varsL P (if isVar a && !([] : List Int).contains a.f1 then [] ++ [a.f1] else []) := rfl
    rw [h1] at h
    cases hv : isVar a with
    | true =>
      rw [hv] at h
      simp only [List.contains_nil, Bool.not_false, Bool.and_self, if_true, List.nil_append] at h
      obtain ⟨e, he⟩ := vars_mono P [a.f1]
      rw [he] at h
      simp at h
    | false =>
      rw [hv] at h
      simp only [Bool.false_and, Bool.false_eq_true, if_false] at h
      rcases List.mem_cons.1 ht with rfl | ht
      · exact hv
      · exact vars_none P h t ht
theorem map_fixed {Q : List Tm} (hQ : ∀ t ∈ Q, isVar t = false) {f : Tm → Tm} (hf : ∀ t, isVar t = false → f t = t) : Q.map f = Q := by
  conv => rhs; rw [← List.map_id Q]
  exact List.map_congr_left (fun t ht => hf t (hQ t ht))
/-- What matches links no two fixed terms. -/
theorem match_sound {P Q : List Tm} (hQ : ∀ t ∈ Q, isVar t = false) {s : List Bd} (h : P.map (becomeT s) = Q) {a b : Tm} (ha : isVar a = false) (hb : isVar b = false) (hl : Ln (fun t u => (t, u) ∈ P.zip Q) a b) : a = b := by
  have h1 := ln_sub (f := becomeT s) (h.trans (map_fixed hQ (fun t ht => become_fix s ht)).symm) hl
  rwa [become_fix s ha, become_fix s hb] at h1
open Classical in
theorem matchL_nil (n0 n1 : ByteArray) (p q : List Tm) (x y : Tm) (hn : n0.toList = n1.toList) (hl : p.length = q.length) :
    matchL n0 p n1 q [] x y = if isVar x = true ∧ y.f0 = 0 then ([], false) else if (x :: p).map (becomeT (growB (x :: p) (y :: q) [])) = y :: q then (startM (growB (x :: p) (y :: q) []), true) else ([], false) := by
  unfold matchL
  have hc : (n0.toList ≠ n1.toList ∨ p.length ≠ q.length ∨ (isVar x = true ∧ y.f0 = 0)) ↔ (isVar x = true ∧ y.f0 = 0) := by simp [hn, hl]
  by_cases h : isVar x = true ∧ y.f0 = 0
  · rw [if_pos (hc.2 h), if_pos h]
  · rw [if_neg (fun e => h (hc.1 e)), if_neg h, stepM_grow _ _ _ (by simp [hl])]
    by_cases e : (x :: p).map (becomeT (growB (x :: p) (y :: q) [])) = y :: q
    · rw [if_pos e, if_pos e]
    · rw [if_neg e, if_neg e]
theorem matchL_off (n0 n1 : ByteArray) (p q : List Tm) (x y : Tm) (h : n0.toList ≠ n1.toList ∨ p.length ≠ q.length) : matchL n0 p n1 q [] x y = ([], false) := by
  unfold matchL
  rw [if_pos (h.elim Or.inl (fun h => Or.inr (Or.inl h)))]
/-- A qualifier that is a variable and becomes no principal is refused. -/
theorem unify_no_by (n0 n1 : ByteArray) (p q : List Tm) (x y : Tm) (hQ : ∀ t ∈ y :: q, isVar t = false) (hx : isVar x = true) (hy : isPrin y = false) : unifyL n0 p n1 q x y = ([], false) := by
  rcases unifyL_spec n0 n1 p q x y with ⟨h, _⟩ | ⟨m, r, _, _, _, hu, hb⟩
  · exact h
  · have hv : isVar y = false := hQ y (by simp)
    have e : r x = y := by
      rw [(hu.same x y).2 (.rel (by simp)), hu.fix hv]
    rcases hb x (Or.inl rfl) hx with h | h
    · rw [e, hv] at h; cases h
    · rw [e, hy] at h; cases h
theorem match_unify (n0 n1 : ByteArray) (p q : List Tm) (x y : Tm) (hQ : ∀ t ∈ y :: q, isVar t = false) (hb : isVar x = true → isPrin y = true) : matchL n0 p n1 q [] x y = unifyL n0 p n1 q x y := by
  have hy0 : isPrin y = true → y.f0 ≠ 0 := fun h e => by
    unfold isPrin at h
    simp only [Bool.and_eq_true, decide_eq_true_eq] at h
    omega
  have hby : ¬ (isVar x = true ∧ y.f0 = 0) := fun h => hy0 (hb h.1) h.2
  have hvy : isVar y = false := hQ y (by simp)
  rcases unifyL_spec n0 n1 p q x y with ⟨hU, hw⟩ | ⟨m, r, hU, hn, hl, hu, hq⟩
  · rw [hU]
    by_cases hnl : n0.toList ≠ n1.toList ∨ p.length ≠ q.length
    · exact matchL_off _ _ _ _ _ _ hnl
    · have hn : n0.toList = n1.toList := Classical.byContradiction fun h => hnl (Or.inl h)
      have hl : p.length = q.length := Classical.byContradiction fun h => hnl (Or.inr h)
      rw [matchL_nil _ _ _ _ _ _ hn hl, if_neg hby]
      by_cases e : (x :: p).map (becomeT (growB (x :: p) (y :: q) [])) = y :: q
      · exfalso
        have hs : ∀ a b, isVar a = false → isVar b = false → Ln (fun t u => (t, u) ∈ (x :: p).zip (y :: q)) a b → a = b := fun a b ha hb' h => match_sound hQ e ha hb' h
        rcases hw with h | h | ⟨a, b, ha, hb', hne, h⟩ | ⟨t, ht, hv, c, hc, hp, h⟩
        · exact h hn
        · exact h hl
        · exact hne (hs a b ha hb' h)
        · rcases ht with rfl | rfl
          · have h2 : c = y := hs c y hc hvy (h.symm.trans (.rel (by simp)))
            rw [h2, hb hv] at hp
            cases hp
          · rw [hvy] at hv; cases hv
      · rw [if_neg e]
  · rw [hU, matchL_nil _ _ _ _ _ _ hn hl, if_neg hby]
    have h1 : (x :: p).map (becomeT m) = (x :: p).map r := List.map_congr_left (fun t ht => hu.become (Or.inl ht))
    have h2 : (x :: p).map (becomeT m) = y :: q := by
      rw [h1, uni_map (by simp [hl]) hu.same]
      exact map_fixed hQ (fun t ht => hu.fix ht)
    have hg : ∀ v, getM (growB (x :: p) (y :: q) []) v = if ((x :: p).any fun t => isVar t && (t.f1 == v)) = true then some (becomeT m ⟨3, v, ⟨#[]⟩⟩) else none := fun v => by
      have := get_grow2 (becomeT m) v (x :: p) []
      rw [h2, getM_nil] at this
      rw [this]
      simp
    have h3 : (x :: p).map (becomeT (growB (x :: p) (y :: q) [])) = y :: q := by
      rw [← h2]
      refine List.map_congr_left (fun t ht => ?_)
      rw [h2]
      cases hv : isVar t with
      | false => rw [become_fix _ hv, become_fix _ hv]
      | true =>
        have hany : ((x :: p).any fun z => isVar z && (z.f1 == t.f1)) = true := List.any_eq_true.2 ⟨t, ht, by simp [hv]⟩
        conv => lhs; unfold becomeT
        rw [hv, hg, hany, if_pos rfl, ← isVar_eq hv]
        rfl
    rw [if_pos h3]
    congr 1
    refine rising_ext (startM_rising _) hu.ris (fun v => ?_)
    rw [getM_start, hg, hu.get]
    have hQn : ((y :: q).any fun t => isVar t && (t.f1 == v)) = false := by
      rw [List.any_eq_false]
      intro t ht
      rw [hQ t ht]
      simp
    rw [List.any_append, hQn, Bool.or_false]
    cases ha : ((x :: p).any fun t => isVar t && (t.f1 == v)) with
    | false => simp
    | true =>
      obtain ⟨t, ht, hv⟩ := List.any_eq_true.1 ha
      simp only [Bool.and_eq_true, beq_iff_eq] at hv
      obtain ⟨hv, rfl⟩ := hv
      rw [← isVar_eq hv, hu.become (Or.inl ht)]
      have hr : isVar (r t) = false := hQ _ (by
        rw [← h2, h1]
        exact List.mem_map.2 ⟨t, ht, rfl⟩)
      have he : eqT (r t) t = false := by
        cases e : eqT (r t) t with
        | false => rfl
        | true => rw [(eqT_iff _ _).1 e, hv] at hr; cases hr
      rw [he]
      simp
theorem zip_self {P : List Tm} {t u : Tm} (h : (t, u) ∈ P.zip P) : t = u := by
  obtain ⟨i, hi, e⟩ := List.mem_iff_getElem.1 h
  rw [List.getElem_zip] at e
  injection e with e1 e2
  exact e1.symm.trans e2
/-- An atom is made the same as itself. -/
theorem unify_self (n : ByteArray) (p : List Tm) (x : Tm) : (unifyL n p n p x x).2 = true := by
  rcases unifyL_spec n n p p x x with ⟨_, hw⟩ | ⟨m, r, hU, _⟩
  · exfalso
    have hs : ∀ {a b}, Ln (fun t u => (t, u) ∈ (x :: p).zip (x :: p)) a b → a = b := fun h => h.by_ (f := id) (fun t u h => zip_self h)
    rcases hw with h | h | ⟨a, b, _, _, hne, h⟩ | ⟨t, _, hv, c, hc, _, h⟩
    · exact h rfl
    · exact h rfl
    · exact hne (hs h)
    · rw [hs h, hc] at hv; cases hv
  · rw [hU]
end Go.Proofs.Ytnomgmlfagiffaa.T
/- The laws' first call answers as the document fixes it. -/
namespace Go.Proofs.Ytnomgmlfagiffaa.T
open Go.RowKit Go.Lib Go.Proofs.YtnomgmlfagiffaaW.PrintWords
theorem first_f : hearsaylaw02_first.f = some true := by
  have e0 : (⟨#[]⟩ : ByteArray).toList = [] := by rw [toList_data]
  have e1 : matchL ⟨#[112]⟩ [(⟨3, 0, ⟨#[]⟩⟩ : Tm)] ⟨#[112]⟩ [⟨1, 5, ⟨#[]⟩⟩] [] ⟨0, 0, ⟨#[]⟩⟩ ⟨0, 0, ⟨#[]⟩⟩ = ([⟨0, ⟨1, 5, ⟨#[]⟩⟩⟩], true) := by
    simp [matchL, stepM, isVar, eqT, getM, putM, startM, e0]
  unfold hearsaylaw02_first.f term_Match.f
  rw [e1, if_pos (by decide)]
  simp [rd_T46, e0]
end Go.Proofs.Ytnomgmlfagiffaa.T
/- The document's Settled answers the map of the binding. -/
set_option linter.unusedVariables false
set_option linter.unusedSimpArgs false
namespace Go.Proofs.Ytnomgmlfagiffaa.T
open Go.RowKit Go.Lib Go.Proofs.YtnomgmlfagiffaaW.PrintWords Go.Proofs.Ytnomgmlfagiffaa.Hs
theorem putM_len (v : Int) (t : Tm) : ∀ m : List Bd, (putM v t m).length ≤ m.length + 1
  | [] => by simp [putM]
  | c :: r => by
    have := putM_len v t r
    unfold putM
    split
    · simp
    · split
      · simp
      · simp only [List.length_cons]; omega
end Go.Proofs.Ytnomgmlfagiffaa.T
/- TermSided: the plain law. -/
set_option linter.unusedVariables false
set_option linter.unusedSimpArgs false
namespace Go.Proofs.Ytnomgmlfagiffaa.T
open Go.RowKit Go.Lib Go.Proofs.YtnomgmlfagiffaaW.PrintWords
theorem unifyL_len (n0 n1 : ByteArray) (p q : List Tm) (x y : Tm) : (unifyL n0 p n1 q x y).1.length ≤ p.length + q.length + 2 := by
  unfold unifyL
  split
  · simp
  · split
    · simp
    · split
      · simp
      · have : ∀ (L : List Tm) (C : Cl) (m : List Bd), (finU L C m).length ≤ m.length + L.length := by
          intro L
          induction L with
          | nil => intro C m; simp [finU]
          | cons t L ih =>
            intro C m
            unfold finU
            refine Nat.le_trans (ih _ _) ?_
            split
            · have := putM_len t.f1 (topF C t).1 m
              simp only [List.length_cons]
              omega
            · simp only [List.length_cons]
              omega
        refine Nat.le_trans (this _ _ _) ?_
        simp
        omega
theorem termSided (t u : Tm) (nm nn : ByteArray) (l m : List Tm) (ot : okT t = true) (ou : okT u = true) (ol : l.all okT = true) (om : m.all okT = true) (hs : l.length + m.length + 10 < smallN) :
    ∃ k, hearsaylaw02_TermSided.f k t.f0 t.f1 t.f2 nm l u.f0 u.f1 u.f2 nn m = some true := by
  have ll : l.length < smallN := by omega
  have lm : m.length < smallN := by omega
  have hV : term_Vars.f u.f0 u.f1 u.f2 nn m = some (varsL (u :: m) []) := by unfold term_Vars.f; rw [if_pos lm]
  have hM : term_Match.f t.f0 t.f1 t.f2 nm l u.f0 u.f1 u.f2 nn m ([] : List Bd) = some (matchL nm l nn m [] t u) := by
    unfold term_Match.f
    rw [if_pos (by simp [ot, ou, ol, om, ll, lm]; decide)]
  have hU : term_Unify.f t.f0 t.f1 t.f2 nm l u.f0 u.f1 u.f2 nn m = some (unifyL nm l nn m t u) := by
    unfold term_Unify.f
    rw [if_pos (by simp [ot, ou, ol, om, ll, lm])]
  have hS : term_Unify.f u.f0 u.f1 u.f2 nn m u.f0 u.f1 u.f2 nn m = some (unifyL nn m nn m u u) := by
    unfold term_Unify.f
    rw [if_pos (by simp [ou, om, lm])]
  refine ⟨smallN + 10, ?_⟩
  unfold hearsaylaw02_TermSided.f
  rw [hV]
  simp only [Option.bind_some]
  by_cases h0 : varsL (u :: m) [] = []
  · rw [h0]
    have hQ := vars_none (u :: m) h0
    rw [if_pos (by rfl), hM, hU]
    simp only [Option.bind_some]
    rw [var_f, prin_f]
    simp only [Option.bind_some]
    have hb : ∀ b : Bool, (b = true → (unifyL nm l nn m t u).2 = false) → (b = false → matchL nm l nn m [] t u = unifyL nm l nn m t u) →
        hearsaylaw02_TermSided.j0 (smallN + 10) (matchL nm l nn m [] t u).1 (matchL nm l nn m [] t u).2 (unifyL nm l nn m t u).1 (unifyL nm l nn m t u).2 b = some true := by
      intro b h1 h2
      rw [hearsaylaw02_TermSided.j0]
      cases b with
      | true => simp [h1 rfl, first_f]
      | false =>
        rw [h2 rfl]
        have hlen := unifyL_len nm nn l m t u
        simp only [Bool.false_eq_true, if_false, beq_self_eq_true, if_true]
        rw [bindings_self _ (by omega) _ (by omega)]
        simp [first_f]
    cases hv : isVar t with
    | true =>
      simp only [if_true]
      refine hb _ (fun h => ?_) (fun h => match_unify nm nn l m t u hQ (fun _ => by simpa using h))
      rw [unify_no_by nm nn l m t u hQ hv (by simpa using h)]
    | false =>
      simp only [Bool.false_eq_true, if_false]
      exact hb _ (fun h => by cases h) (fun _ => match_unify nm nn l m t u hQ (fun h => by rw [hv] at h; cases h))
  · have hne : ¬ (((varsL (u :: m) []).length : Int) = 0) := fun e => h0 (List.eq_nil_of_length_eq_zero (by omega))
    rw [if_neg hne, hS]
    simp only [Option.bind_some]
    rw [if_pos (unify_self nn m u), first_f]
    rfl
end Go.Proofs.Ytnomgmlfagiffaa.T
