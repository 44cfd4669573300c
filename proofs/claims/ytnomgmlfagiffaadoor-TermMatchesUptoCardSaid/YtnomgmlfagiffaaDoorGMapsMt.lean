/- Maps from int to Term, as lists in rising order; the walk of term.sorted. -/
import Derived.Test.YtnomgmlfagiffaaDoorGSortMt
import Derived.Maps.RangeWalk
import Derived.Maps.OwnSet
import Derived.Maps.OwnOps
import Derived.Maps.Ext
set_option linter.unusedVariables false
namespace Go.Proofs.YtnomgmlfagiffaaDoor.T
open Go.RowKit Go.Maps Go.Proofs.YtnomgmlfagiffaaDoorW.PrintWords Go.Proofs.YtnomgmlfagiffaaDoorW.PrintLast
theorem lawI : Keyed Tryd.prog 3 := int_keyed Tryd.underlying3
def encT (t : Tm) : Value := .agg #[.int .i64 t.f0, .int .i64 t.f1, .string t.f2]
def decT : Value → Option Tm
  | .agg xs => match xs.toList with | [.int .i64 a, .int .i64 b, .string s] => some ⟨a, b, s⟩ | _ => none
  | _ => none
theorem decT_inv {v : Value} {t : Tm} (h : decT v = some t) : v = encT t := by
  cases v with
  | agg xs =>
    obtain ⟨l⟩ := xs
    simp only [decT] at h
    split at h
    · have := Option.some.inj h
      subst this
      rfl
    · cases h
  | _ => simp [decT] at h
def RT (v : Value) : Option (DataW Tm × List MemPlace) := (decT v).map fun t => (.held t, [])
theorem RT_enc (t : Tm) : RT (encT t) = some (.held t, []) := rfl
theorem RT_inv {v : Value} {y : DataW Tm × List MemPlace} (h : RT v = some y) : ∃ t, v = encT t ∧ y = (.held t, []) := by
  unfold RT at h
  obtain ⟨t, ht, rfl⟩ := Option.map_eq_some_iff.1 h
  exact ⟨t, decT_inv ht, rfl⟩
/-- The map's datum. -/
def entB (b : Bd) : Lit × DataW Tm := (.int .i64 b.f0, .held b.f1)
def mapD (m : List Bd) : DataW Tm := .map (m.map entB)
/-- Strictly rising by Var. -/
def Rising (m : List Bd) : Prop := m.Pairwise fun a b => a.f0 < b.f0
theorem putM_mem {v : Int} {t : Tm} : ∀ {m : List Bd} {b : Bd}, b ∈ putM v t m → b = ⟨v, t⟩ ∨ b ∈ m
  | [], b, h => by simp [putM] at h; exact .inl h
  | c :: r, b, h => by
    unfold putM at h
    split at h
    · simp only [List.mem_cons] at h ⊢; exact h
    · split at h
      · simp only [List.mem_cons] at h ⊢; rcases h with h | h
        · exact .inl h
        · exact .inr (.inr h)
      · simp only [List.mem_cons] at h ⊢; rcases h with h | h
        · exact .inr (.inl h)
        · rcases putM_mem h with h | h
          · exact .inl h
          · exact .inr (.inr h)
theorem putM_rising {v : Int} {t : Tm} : ∀ {m : List Bd}, Rising m → Rising (putM v t m)
  | [], _ => by simp [putM, Rising]
  | c :: r, h => by
    obtain ⟨h1, h2⟩ := List.pairwise_cons.1 h
    unfold putM
    split
    · rename_i hv
      refine List.pairwise_cons.2 ⟨fun b hb => ?_, h⟩
      rcases List.mem_cons.1 hb with rfl | hb
      · exact hv
      · have := h1 b hb; show v < b.f0; omega
    · split
      · rename_i hv
        refine List.pairwise_cons.2 ⟨fun b hb => ?_, h2⟩
        have := h1 b hb; show v < b.f0; omega
      · refine List.pairwise_cons.2 ⟨fun b hb => ?_, putM_rising h2⟩
        rcases putM_mem hb with rfl | hb
        · show c.f0 < v; omega
        · exact h1 b hb
theorem sameKey_int (x y : Int) : Lit.sameKey (.int .i64 x) (.int .i64 y) = (x == y) := by
  simp only [Lit.sameKey, true_and]
  rw [Bool.eq_iff_iff]
  simp
theorem filter_lt {v : Int} : ∀ {r : List Bd}, (∀ b ∈ r, v < b.f0) → r.filter (fun b => !(b.f0 == v)) = r := by
  intro r h
  rw [List.filter_eq_self]
  intro b hb
  have := h b hb
  have e : (b.f0 == v) = false := by simp; omega
  rw [e]; rfl
def insB (v : Int) (t : Tm) : List Bd → List Bd
  | [] => [⟨v, t⟩]
  | c :: r => if v < c.f0 then ⟨v, t⟩ :: c :: r else c :: insB v t r
theorem insert_ent {v : Int} {t : Tm} : ∀ (r : List Bd), DataW.insert (entB ⟨v, t⟩) (r.map entB) = (insB v t r).map entB
  | [] => rfl
  | c :: r => by
    simp only [List.map_cons, DataW.insert, insB]
    have e : (entB ⟨v, t⟩).1.before (entB c).1 = decide (v < c.f0) := rfl
    rw [e]
    by_cases h : v < c.f0
    · rw [if_pos (by simpa using h), if_pos h]; rfl
    · rw [if_neg (by simpa using h), if_neg h, List.map_cons, ← insert_ent r]
theorem ins_put {v : Int} {t : Tm} : ∀ {m : List Bd}, Rising m → insB v t (m.filter fun b => !(b.f0 == v)) = putM v t m
  | [], _ => rfl
  | c :: r, h => by
    obtain ⟨h1, h2⟩ := List.pairwise_cons.1 h
    unfold putM
    by_cases hv : v < c.f0
    · rw [if_pos hv, filter_lt (fun b hb => by rcases List.mem_cons.1 hb with rfl | hb; exact hv; have := h1 b hb; omega)]
      simp [insB, hv]
    · rw [if_neg hv]
      by_cases he : c.f0 = v
      · rw [if_pos he, List.filter_cons_of_neg (by simp [he]), filter_lt (fun b hb => by have := h1 b hb; omega)]
        cases r with
        | nil => rfl
        | cons d s => simp [insB, show v < d.f0 by have := h1 d (by simp); omega]
      · rw [if_neg he, List.filter_cons_of_pos (by simpa using he)]
        simp only [insB]
        rw [if_neg hv, ins_put h2]
theorem put_mapD {v : Int} {t : Tm} {m : List Bd} (h : Rising m) : (mapD m).put (.int .i64 v) (.held t) = mapD (putM v t m) := by
  unfold mapD DataW.put
  dsimp only
  have e : (m.map entB).filter (fun p => !p.1.sameKey (.int .i64 v)) = (m.filter fun b => !(b.f0 == v)).map entB := by
    rw [List.filter_map]
    congr 1
    apply List.filter_congr
    intro b _
    simp only [Function.comp, entB]
    rw [sameKey_int]
  rw [e]
  have := insert_ent (v := v) (t := t) (m.filter fun b => !(b.f0 == v))
  rw [ins_put h] at this
  rw [← this]
  rfl
theorem has_mapD (v : Int) : ∀ (m : List Bd), Maps.has (mapD m) (.int .i64 v) = (getM m v).isSome
  | [] => rfl
  | c :: r => by
    have ih := has_mapD v r
    unfold mapD getM Maps.has at ih ⊢
    simp only [List.map_cons, List.any_cons, List.find?_cons, entB] at ih ⊢
    rw [sameKey_int]
    cases h : c.f0 == v with
    | true => simp
    | false => simpa using ih
theorem atKey_mapD (v : Int) (z : DataW Tm) : ∀ (m : List Bd), (mapD m).atKey (.int .i64 v) z = match getM m v with | some t => .held t | none => z
  | [] => rfl
  | c :: r => by
    have ih := atKey_mapD v z r
    unfold mapD getM DataW.atKey at ih ⊢
    simp only [List.map_cons, List.find?_cons, entB] at ih ⊢
    rw [sameKey_int]
    cases h : c.f0 == v with
    | true => simp
    | false => simpa using ih
theorem getM_mem {v : Int} {t : Tm} : ∀ {m : List Bd}, getM m v = some t → (⟨v, t⟩ : Bd) ∈ m
  | [], h => by simp [getM] at h
  | c :: r, h => by
    unfold getM at h
    rw [List.find?_cons] at h
    cases he : c.f0 == v with
    | true =>
      rw [he] at h
      simp at h he
      subst h he
      exact .head _
    | false =>
      rw [he] at h
      exact .tail _ (getM_mem (m := r) h)
theorem rising_getM : ∀ {m : List Bd}, Rising m → ∀ {b : Bd}, b ∈ m → getM m b.f0 = some b.f1
  | c :: r, h, b, hb => by
    obtain ⟨h1, h2⟩ := List.pairwise_cons.1 h
    unfold getM
    rw [List.find?_cons]
    rcases List.mem_cons.1 hb with rfl | hb
    · simp
    · have h3 := h1 b hb
      have e : (c.f0 == b.f0) = false := by simp; omega
      rw [e]
      exact rising_getM h2 hb
/-- Two lists of the same elements, each strictly rising, are one. -/
theorem rising_eq : ∀ {l m : List Bd}, Rising l → Rising m → (∀ b, b ∈ l ↔ b ∈ m) → l = m
  | [], [], _, _, _ => rfl
  | [], c :: r, _, _, h => by have := (h c).2 (.head _); simp at this
  | c :: r, [], _, _, h => by have := (h c).1 (.head _); simp at this
  | a :: l, c :: m, h1, h2, h => by
    obtain ⟨h3, h4⟩ := List.pairwise_cons.1 h1
    obtain ⟨h5, h6⟩ := List.pairwise_cons.1 h2
    have e : a = c := by
      rcases List.mem_cons.1 ((h a).1 (.head _)) with h7 | h7
      · exact h7
      · rcases List.mem_cons.1 ((h c).2 (.head _)) with h8 | h8
        · exact h8.symm
        · have := h5 a h7; have := h3 c h8; omega
    subst e
    have : l = m := rising_eq h4 h6 fun b => by
      constructor
      · intro hb
        rcases List.mem_cons.1 ((h b).1 (.tail _ hb)) with rfl | h7
        · have := h3 b hb; omega
        · exact h7
      · intro hb
        rcases List.mem_cons.1 ((h b).2 (.tail _ hb)) with rfl | h7
        · have := h5 b hb; omega
        · exact h7
    rw [this]
/-- A list of m's entries, sorted by Var, is m. -/
theorem sorted_unique {m l l' : List Bd} (hm : Rising m) (hl : l.Perm m) (hl' : l'.Perm l) (hs : l'.Pairwise fun a b => ¬ b.f0 < a.f0) : l' = m := by
  have hp := hl'.trans hl
  have hr : Rising l' := by
    have hk : (l'.map (·.f0)).Nodup := by
      have : (m.map (·.f0)).Nodup := by
        rw [List.nodup_iff_pairwise_ne, List.pairwise_map]
        exact hm.imp fun {a b} hab => by omega
      exact ((hp.map _).nodup_iff).2 this
    rw [List.nodup_iff_pairwise_ne, List.pairwise_map] at hk
    exact (hs.and hk).imp fun {a b} ⟨h1, h2⟩ => by omega
  exact rising_eq hr hm fun b => hp.mem_iff
/-- What has been read of the map while the loop is under way. -/
def Got (m : List Bd) (left : Lit → Bool) (l : List Bd) : Prop := l.Perm (m.filter fun b => !left (.int .i64 b.f0))
theorem Got.start (m : List Bd) : Got m (Maps.has (mapD m)) [] := by
  unfold Got
  rw [List.filter_eq_nil_iff.2]
  intro b hb
  have : Maps.has (mapD m) (.int .i64 b.f0) = true := by
    unfold mapD Maps.has
    simp only [List.any_map, List.any_eq_true]
    exact ⟨b, hb, by simp only [Function.comp, entB]; rw [sameKey_int]; simp⟩
  simp [this]
theorem filter_step {left : Lit → Bool} {x : Int} {t : Tm} (hl : left (.int .i64 x) = true) : ∀ {m : List Bd}, Rising m → (⟨x, t⟩ : Bd) ∈ m →
    (m.filter fun b => !(left (.int .i64 b.f0) && !(Lit.sameKey (.int .i64 b.f0) (.int .i64 x)))).Perm (⟨x, t⟩ :: m.filter fun b => !left (.int .i64 b.f0))
  | c :: r, hm, h => by
    obtain ⟨h1, h2⟩ := List.pairwise_cons.1 hm
    by_cases hc : c.f0 = x
    · have e : c = ⟨x, t⟩ := by
        rcases List.mem_cons.1 h with h | h
        · exact h.symm
        · have := h1 _ h; simp at this; omega
      subst e
      rw [List.filter_cons_of_pos (by rw [sameKey_int]; simp), List.filter_cons_of_neg (by simp [hl])]
      refine List.Perm.cons _ ?_
      refine List.Perm.of_eq (List.filter_congr fun b hb => ?_)
      have := h1 b hb
      rw [sameKey_int, show (b.f0 == x) = false by simp; simp at this; omega]
      simp
    · have hin : (⟨x, t⟩ : Bd) ∈ r := by
        rcases List.mem_cons.1 h with h | h
        · exact absurd (by rw [← h]) hc
        · exact h
      have ih := filter_step hl h2 hin
      cases hlc : left (.int .i64 c.f0) with
      | true =>
        rw [List.filter_cons_of_neg (by rw [sameKey_int]; simp [hlc, hc]), List.filter_cons_of_neg (by simp [hlc])]
        exact ih
      | false =>
        rw [List.filter_cons_of_pos (by simp [hlc]), List.filter_cons_of_pos (by simp [hlc])]
        exact (ih.cons c).trans (List.Perm.swap _ _ _)
theorem Got.step {m l : List Bd} {left : Lit → Bool} {x : Int} {t : Tm} (h : Got m left l) (hm : Rising m) (hl : left (.int .i64 x) = true) (ht : (⟨x, t⟩ : Bd) ∈ m) : Got m (fun z => left z && !z.sameKey (.int .i64 x)) (l ++ [⟨x, t⟩]) := by
  unfold Got at *
  exact (List.perm_append_singleton _ _).trans ((h.cons _).trans (filter_step hl hm ht).symm)
theorem Got.done {m l : List Bd} {left : Lit → Bool} (h : Got m left l) (h0 : ∀ kl, left kl = false) : l.Perm m := by
  unfold Got at h
  have e : (m.filter fun b => !left (.int .i64 b.f0)) = m := List.filter_eq_self.2 fun b _ => by simp [h0]
  rwa [e] at h
theorem Got.len {m l : List Bd} {left : Lit → Bool} (h : Got m left l) : l.length ≤ m.length := by
  rw [h.length_eq]; exact List.length_filter_le _ _
end Go.Proofs.YtnomgmlfagiffaaDoor.T
