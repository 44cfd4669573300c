/- Matching, plainly: the map of the steps is the map of the binding grown step by step. -/
import Derived.Test.YtnomgmlfagiffaaDoorGMatchMt
import Derived.Test.YtnomgmlfagiffaaDoorPureBMt
import Derived.Test.YtnomgmlfagiffaaDoorPureAMt
set_option linter.unusedVariables false
set_option linter.unusedSimpArgs false
namespace Go.Proofs.YtnomgmlfagiffaaDoor.T
open Go.RowKit Go.Lib Go.Proofs.YtnomgmlfagiffaaDoorW.PrintWords Go.Proofs.YtnomgmlfagiffaaDoor.Hs
theorem getM_nil (v : Int) : getM [] v = none := rfl
theorem getM_app (s r : List Bd) (v : Int) : getM (s ++ r) v = (getM s v).or (getM r v) := by
  induction s with
  | nil => simp [getM_nil]
  | cons b s ih =>
    rw [List.cons_append, getM_cons, getM_cons, ih]
    split
    · rfl
    · rfl
theorem getM_put {v : Int} {t : Tm} (w : Int) : ∀ {m : List Bd}, Rising m → getM (putM v t m) w = if v = w then some t else getM m w
  | [], _ => by rw [putM, getM_cons]
  | c :: r, h => by
    obtain ⟨h1, h2⟩ := List.pairwise_cons.1 h
    unfold putM
    split
    · rw [getM_cons]
    · split
      · rename_i hv
        rw [getM_cons, getM_cons]
        by_cases e : v = w
        · rw [if_pos e, if_pos e]
        · rw [if_neg e, if_neg e, if_neg (by omega)]
      · rename_i hv hc
        rw [getM_cons, getM_put w h2, getM_cons]
        by_cases e : v = w
        · rw [if_neg (by omega), if_pos e, if_pos e]
        · rw [if_neg e, if_neg e]
theorem putM_same {v : Int} {t : Tm} : ∀ {m : List Bd}, Rising m → getM m v = some t → putM v t m = m
  | [], _, h => by simp [getM_nil] at h
  | c :: r, hm, h => by
    obtain ⟨h1, h2⟩ := List.pairwise_cons.1 hm
    rw [getM_cons] at h
    unfold putM
    by_cases e : c.f0 = v
    · rw [if_pos e] at h
      injection h with h
      rw [if_neg (by omega), if_pos e]
      cases c
      simp only at e h
      subst e h
      rfl
    · rw [if_neg e] at h
      have hin := getM_mem h
      have := h1 _ hin
      simp only at this
      rw [if_neg (by omega), if_neg e, putM_same h2 h]
theorem getM_fold (v : Int) : ∀ (s m : List Bd), Rising m → getM (s.foldl (fun m b => if (getM m b.f0).isSome then m else putM b.f0 b.f1 m) m) v = (getM m v).or (getM s v)
  | [], m, _ => by simp [getM_nil]
  | b :: s, m, h => by
    rw [List.foldl_cons, getM_cons]
    by_cases e : (getM m b.f0).isSome = true
    · rw [if_pos e, getM_fold v s m h]
      by_cases ev : b.f0 = v
      · subst ev
        obtain ⟨t, ht⟩ := Option.isSome_iff_exists.1 e
        rw [ht]; simp
      · rw [if_neg ev]
    · rw [if_neg e, getM_fold v s _ (putM_rising h), getM_put v h]
      have e0 : getM m b.f0 = none := by simpa using e
      by_cases ev : b.f0 = v
      · subst ev; rw [if_pos rfl, if_pos rfl, e0]; simp
      · rw [if_neg ev, if_neg ev]
theorem getM_start (s : List Bd) (v : Int) : getM (startM s) v = getM s v := by
  unfold startM
  rw [getM_fold v s [] List.Pairwise.nil, getM_nil]
  rfl
/-- The binding that a match grows: what is new stands behind. -/
def growB : List Tm → List Tm → List Bd → List Bd
  | t :: p, u :: q, s => growB p q (if isVar t && (getM s t.f1).isNone then s ++ [⟨t.f1, u⟩] else s)
  | _, _, s => s
theorem growB_cons (t u : Tm) (p q : List Tm) (s : List Bd) : growB (t :: p) (u :: q) s = growB p q (if isVar t && (getM s t.f1).isNone then s ++ [⟨t.f1, u⟩] else s) := rfl
theorem growB_keeps {v : Int} {w : Tm} : ∀ (p q : List Tm) (s : List Bd), getM s v = some w → getM (growB p q s) v = some w
  | [], _, _, h => h
  | _ :: _, [], _, h => h
  | t :: p, u :: q, s, h => by
    unfold growB
    refine growB_keeps p q _ ?_
    split
    · rw [getM_app, h]; rfl
    · exact h
open Classical in
theorem stepM_grow : ∀ (p q : List Tm) (s : List Bd), p.length = q.length → stepM p q (startM s) = if p.map (becomeT (growB p q s)) = q then some (startM (growB p q s)) else none
  | [], [], s, _ => by simp [stepM, growB]
  | [], _ :: _, _, h => by simp at h
  | _ :: _, [], _, h => by simp at h
  | t :: p, u :: q, s, h => by
    have hl : p.length = q.length := by simpa using h
    rw [stepM, growB_cons, List.map_cons]
    cases hv : isVar t with
    | false =>
      simp only [Bool.false_eq_true, if_false, Bool.false_and]
      have eb : becomeT (growB p q s) t = t := by unfold becomeT; rw [hv]; rfl
      rw [eb]
      by_cases e : t = u
      · rw [if_pos ((eqT_iff t u).2 e), stepM_grow p q s hl, e]
        simp
      · rw [if_neg (fun h => e ((eqT_iff t u).1 h)), if_neg (fun h => e (by injection h))]
    | true =>
      simp only [if_true, Bool.true_and]
      rw [getM_start]
      cases hg : getM s t.f1 with
      | some was =>
        simp only [Option.isNone_some, Bool.false_eq_true, if_false]
        have eb : becomeT (growB p q s) t = was := by unfold becomeT; rw [hv, growB_keeps p q s hg]; rfl
        rw [eb]
        by_cases e : was = u
        · rw [if_pos ((eqT_iff was u).2 e), putM_same (startM_rising s) (by rw [getM_start, hg, e]), stepM_grow p q s hl, e]
          simp
        · rw [if_neg (fun h => e ((eqT_iff was u).1 h)), if_neg (fun h => e (by injection h))]
      | none =>
        simp only [Option.isNone_none, if_true]
        have es : putM t.f1 u (startM s) = startM (s ++ [⟨t.f1, u⟩]) := by
          rw [startM_snoc, getM_start, hg]
          rfl
        have eg : getM (s ++ [⟨t.f1, u⟩]) t.f1 = some u := by
          rw [getM_app, hg, getM_cons, if_pos rfl]
          rfl
        have eb : becomeT (growB p q (s ++ [⟨t.f1, u⟩])) t = u := by unfold becomeT; rw [hv, growB_keeps p q _ eg]; rfl
        rw [es, stepM_grow p q _ hl, eb]
        simp
end Go.Proofs.YtnomgmlfagiffaaDoor.T
