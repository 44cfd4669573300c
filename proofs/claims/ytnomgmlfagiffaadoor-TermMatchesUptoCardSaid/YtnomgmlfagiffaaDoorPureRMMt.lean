/- The document's Match is the program's. -/
import Derived.Test.YtnomgmlfagiffaaDoorPureSMt
import Derived.Test.YtnomgmlfagiffaaDoorPureCAMt
import Derived.Test.YtnomgmlfagiffaaDoorPureBAMt
import Derived.Test.YtnomgmlfagiffaaDoorT13Mt
set_option linter.unusedVariables false
set_option linter.unusedSimpArgs false
namespace Go.Proofs.YtnomgmlfagiffaaDoor.T
open Go.RowKit Go.Lib Go.Proofs.YtnomgmlfagiffaaDoorW.PrintWords Go.Proofs.YtnomgmlfagiffaaDoor.Hs
theorem getM_ok {s : List Bd} {v : Int} {t : Tm} (hs : s.all okB = true) (h : getM s v = some t) : okT t = true := by
  have := List.all_eq_true.1 hs _ (getM_mem h)
  simp only [okB, Bool.and_eq_true] at this
  exact this.2
theorem becomeT_ok {s : List Bd} {t : Tm} (hs : s.all okB = true) (ht : okT t = true) : okT (becomeT s t) = true := by
  unfold becomeT
  split
  · cases h : getM s t.f1 with
    | none => exact ht
    | some u => exact getM_ok hs h
  · exact ht
theorem rsame_f (t u : Tm) (nm nn : ByteArray) (l m : List Tm) (ot : okT t = true) (ou : okT u = true) (hn : nm.size ≤ 9223372036854775807) (hm : nn.size ≤ 9223372036854775807) (ol : l.all okT = true) (om : m.all okT = true) (ll : l.length < smallN) :
    ∃ K, ∀ k, K ≤ k → hearsayref02_Same.f k t.f0 t.f1 t.f2 nm l u.f0 u.f1 u.f2 nn m = some (cmpA t nm l u nn m == 0) := by
  obtain ⟨K, hK⟩ := rcmpA_f t u nm nn l m ot ou hn hm ol om ll
  refine ⟨K, fun k hk => ?_⟩
  unfold hearsayref02_Same.f
  rw [hK k hk]
  rfl
theorem rplaces_f (t : Tm) (nm : ByteArray) (l : List Tm) (ll : l.length < smallN) : hearsayref02_Places.f t.f0 t.f1 t.f2 nm l = some (t :: l) := by
  unfold hearsayref02_Places.f
  simp only [Option.bind_some]
  rw [if_pos (by simp [smallN] at ll; simp; omega)]
  rfl
/-- What the document's Match answers of the binding it has grown. -/
def finM (t u : Tm) (nm nn : ByteArray) (l m : List Tm) (G : List Bd) : List Bd × Bool :=
  if cmpA (becomeT G t) nm (l.map (becomeT G)) u nn m == 0 then (startM G, true) else ([], false)
theorem rloop_f (t u : Tm) (nm nn : ByteArray) (l m : List Tm) (B : Nat) (hB : B < smallN) (ot : okT t = true) (ou : okT u = true) (hn : nm.size ≤ 9223372036854775807) (hm : nn.size ≤ 9223372036854775807) (ol : l.all okT = true) (om : m.all okT = true) (ll : l.length < smallN) (hlm : l.length = m.length) :
    ∀ (n i : Nat) (G : List Bd), (t :: l).length = i + n → G.length + n ≤ B → G.all okB = true →
      ∃ K, ∀ k, K ≤ k → hearsayref02_Match.l0 k G (t :: l) (u :: m) (i : Int) t.f0 t.f1 t.f2 nm l u.f0 u.f1 u.f2 nn m = some (finM t u nm nn l m (growB ((t :: l).drop i) ((u :: m).drop i) G)) := by
  intro n
  induction n with
  | zero =>
    intro i G hi hG oG
    have oG1 : okT (becomeT G t) = true := becomeT_ok oG ot
    have oG2 : (l.map (becomeT G)).all okT = true := by
      rw [List.all_eq_true]
      intro x hx
      obtain ⟨y, hy, rfl⟩ := List.mem_map.1 hx
      exact becomeT_ok oG (List.all_eq_true.1 ol y hy)
    obtain ⟨K1, h1⟩ := rsame_f (becomeT G t) u nm nn (l.map (becomeT G)) m oG1 ou hn hm oG2 om (by simpa using ll)
    obtain ⟨K2, h2⟩ := settled_f G (by simp [smallN] at hB; omega)
    refine ⟨K1 + K2 + G.length + l.length + 4, fun k hk => ?_⟩
    obtain ⟨k, rfl⟩ : ∃ j, k = j + 1 := ⟨k - 1, by omega⟩
    rw [hearsayref02_Match.l0, if_neg (by omega), rapply_f G t nm l (by omega) ll k (by omega)]
    simp only [Option.bind_some]
    rw [h1 k (by omega), List.drop_eq_nil_of_le (by omega), List.drop_eq_nil_of_le (by simp at hi ⊢; omega), show growB ([] : List Tm) [] G = G from rfl]
    simp only [Option.bind_some]
    unfold finM
    by_cases hz : (cmpA (becomeT G t) nm (l.map (becomeT G)) u nn m == 0) = true
    · rw [if_pos hz, if_pos hz, h2 k (by omega)]
      rfl
    · rw [if_neg hz, if_neg hz]
  | succ n ih =>
    intro i G hi hG oG
    have hx : i < (t :: l).length := by omega
    have hy : i < (u :: m).length := by simp at hi ⊢; omega
    have oa : ((t :: l)[i]).f1 = ((t :: l)[i]).f1 := rfl
    have otl : okT (t :: l)[i] = true := by
      rcases List.mem_cons.1 (List.getElem_mem hx) with h | h
      · rw [h]; exact ot
      · exact List.all_eq_true.1 ol _ h
    have oum : okT (u :: m)[i] = true := by
      rcases List.mem_cons.1 (List.getElem_mem hy) with h | h
      · rw [h]; exact ou
      · exact List.all_eq_true.1 om _ h
    rw [List.drop_eq_getElem_cons hx, List.drop_eq_getElem_cons hy, growB_cons]
    have HW : Aside0 (wrap64 ((i : Int) + 1) = ((i + 1 : Nat) : Int)) := ⟨by have h1 := hx; simp only [List.length_cons] at h1; have h2 := ll; simp [smallN] at h2; unfold wrap64; omega⟩
    have hrx := rd_at23 (t :: l) i hx
    have hry := rd_at23 (u :: m) i hy
    generalize (t :: l)[i] = a at *
    generalize (u :: m)[i] = b at *
    by_cases hc : (isVar a && (getM G a.f1).isNone) = true
    · rw [if_pos hc]
      simp only [Bool.and_eq_true] at hc
      have hnone : getM G a.f1 = none := by simpa using hc.2
      have oG' : (G ++ [(⟨a.f1, b⟩ : Bd)]).all okB = true := by
        rw [List.all_append, oG]
        simp only [okT, Bool.and_eq_true] at otl
        simp only [List.all_cons, List.all_nil, okB, Bool.true_and, Bool.and_true, Bool.and_eq_true]
        exact ⟨otl.2.1, oum⟩
      obtain ⟨K, hK⟩ := ih (i + 1) (G ++ [(⟨a.f1, b⟩ : Bd)]) (by omega) (by simp; omega) oG'
      refine ⟨K + G.length + 2, fun k hk => ?_⟩
      obtain ⟨k, rfl⟩ : ∃ j, k = j + 1 := ⟨k - 1, by omega⟩
      rw [hearsayref02_Match.l0, if_pos (by omega), if_pos (by omega), hrx, hry, rlook_f G a.f1 (by omega) k (by omega), rvar_f]
      simp only [Option.bind_some, lookR, hnone]
      rw [if_pos hc.1, if_neg (by simp), if_pos (by omega), if_pos (by simp [smallN] at hB; omega), HW.out]
      exact hK k (by omega)
    · rw [if_neg hc]
      obtain ⟨K, hK⟩ := ih (i + 1) G (by omega) (by omega) oG
      refine ⟨K + G.length + 2, fun k hk => ?_⟩
      obtain ⟨k, rfl⟩ : ∃ j, k = j + 1 := ⟨k - 1, by omega⟩
      rw [hearsayref02_Match.l0, if_pos (by omega), if_pos (by omega), hrx, hry, rlook_f G a.f1 (by omega) k (by omega), rvar_f]
      simp only [Option.bind_some, lookR]
      cases hv : isVar a with
      | false =>
        rw [if_neg (by simp), HW.out]
        exact hK k (by omega)
      | true =>
        rw [if_pos rfl]
        cases hg : getM G a.f1 with
        | none => rw [hv, hg] at hc; simp at hc
        | some w =>
          simp only [if_true]
          rw [HW.out]
          exact hK k (by omega)
theorem rmatch_f (t u : Tm) (nm nn : ByteArray) (l m : List Tm) (s : List Bd) (ot : okT t = true) (ou : okT u = true) (hn : nm.size ≤ 9223372036854775807) (hm : nn.size ≤ 9223372036854775807) (ol : l.all okT = true) (om : m.all okT = true) (os : s.all okB = true) (hsum : s.length + l.length + 1 < smallN) (lm : m.length < smallN) :
    ∃ K, ∀ k, K ≤ k → hearsayref02_Match.f k t.f0 t.f1 t.f2 nm l u.f0 u.f1 u.f2 nn m s = some (matchL nm l nn m s t u) := by
  have stop : ∀ k, 1 ≤ k → hearsayref02_Match.j0 k s true t.f0 t.f1 t.f2 nm l u.f0 u.f1 u.f2 nn m = some ([], false) := by
    intro k hk
    obtain ⟨k, rfl⟩ : ∃ j, k = j + 1 := ⟨k - 1, by omega⟩
    rw [hearsayref02_Match.j0, if_pos rfl]
  by_cases hc : nm.toList ≠ nn.toList ∨ l.length ≠ m.length ∨ (isVar t = true ∧ u.f0 = 0)
  · refine ⟨1, fun k hk => ?_⟩
    have e : matchL nm l nn m s t u = ([], false) := by unfold matchL; exact if_pos hc
    rw [e]
    unfold hearsayref02_Match.f
    by_cases h1 : nm.toList = nn.toList
    · rw [if_pos h1]
      by_cases h2 : l.length = m.length
      · rw [if_pos (by omega), rvar_f]
        obtain ⟨h3, h4⟩ : isVar t = true ∧ u.f0 = 0 := by rcases hc with h | h | h; exact absurd h1 h; exact absurd h2 h; exact h
        simp only [Option.bind_some]
        rw [if_pos h3, show (u.f0 == 0) = true by simp [h4]]
        exact stop k hk
      · rw [if_neg (by omega)]
        exact stop k hk
    · rw [if_neg h1]
      exact stop k hk
  · have h1 : nm.toList = nn.toList := Classical.byContradiction fun h => hc (.inl h)
    have h2 : l.length = m.length := Classical.byContradiction fun h => hc (.inr (.inl h))
    have h3 : isVar t = true → (u.f0 == 0) = false := fun h => by
      have : u.f0 ≠ 0 := fun h0 => hc (.inr (.inr ⟨h, h0⟩))
      simpa using this
    have hnm : nm = nn := ba_ext h1
    rw [matchL_go (by simp [h1]) h2 rfl h3]
    have hG := stepM_grow (t :: l) (u :: m) s (by simp [h2])
    obtain ⟨K, hK⟩ := rloop_f t u nm nn l m (s.length + l.length + 1) hsum ot ou hn hm ol om (by omega) h2 (l.length + 1) 0 s (by simp) (by omega) os
    have go : ∀ k, K + 1 ≤ k → hearsayref02_Match.j0 k s false t.f0 t.f1 t.f2 nm l u.f0 u.f1 u.f2 nn m = some (finM t u nm nn l m (growB (t :: l) (u :: m) s)) := by
      intro k hk
      obtain ⟨k, rfl⟩ : ∃ j, k = j + 1 := ⟨k - 1, by omega⟩
      rw [hearsayref02_Match.j0, if_neg (by simp), if_pos (by simp [smallN] at hsum; simp; omega), rplaces_f t nm l (by omega), rplaces_f u nn m lm]
      simp only [Option.bind_some, List.nil_append]
      have := hK k (by omega)
      simpa using this
    refine ⟨K + 1, fun k hk => ?_⟩
    have hfin : finM t u nm nn l m (growB (t :: l) (u :: m) s) = match stepM (t :: l) (u :: m) (startM s) with | some m => (m, true) | none => ([], false) := by
      rw [hG]
      unfold finM
      generalize growB (t :: l) (u :: m) s = G
      have hz := cmpA_zero (becomeT G t) u nm nn (l.map (becomeT G)) m
      by_cases he : (t :: l).map (becomeT G) = u :: m
      · rw [if_pos he]
        rw [List.map_cons] at he
        injection he with e1 e2
        rw [if_pos (by simpa using hz.2 ⟨hnm, e1, e2⟩)]
      · rw [if_neg he, if_neg]
        intro h
        have h := hz.1 (by simpa using h)
        exact he (by rw [List.map_cons, h.2.1, h.2.2])
    refine Eq.trans ?_ (congrArg some hfin)
    unfold hearsayref02_Match.f
    rw [if_pos h1, if_pos (by omega), rvar_f]
    simp only [Option.bind_some]
    cases hv : isVar t with
    | false => rw [if_neg (by simp)]; exact go k hk
    | true => rw [if_pos rfl, h3 hv]; exact go k hk
end Go.Proofs.YtnomgmlfagiffaaDoor.T
