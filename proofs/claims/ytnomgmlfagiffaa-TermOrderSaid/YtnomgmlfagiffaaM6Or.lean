/- PureCA; PureAt; PureFirst; PureTermOrder: texts of this claim, laid together. -/
import Derived.Test.YtnomgmlfagiffaaM0Or
import Derived.Test.YtnomgmlfagiffaaM4Or
import Derived.Test.YtnomgmlfagiffaaM2Or
import Derived.Test.YtnomgmlfagiffaaM1Or
import Derived.Deep.RegionHeld3
import Derived.Deep.DrawnRows
import Derived.Test.YtnomgmlfagiffaaM3Or
import Derived.Lib.Bytealg
import Derived.Lib.Small
/- The document's comparison of atoms, and its Settled, in closed form. -/
set_option linter.unusedVariables false
set_option linter.unusedSimpArgs false
namespace Go.Proofs.Ytnomgmlfagiffaa.T
open Go.RowKit Go.Lib Go.Proofs.YtnomgmlfagiffaaW.PrintWords Go.Proofs.Ytnomgmlfagiffaa.Hs
/-- CompareAtoms: by name, number of arguments, qualifier, arguments. -/
def cmpA (t : Tm) (nm : ByteArray) (l : List Tm) (u : Tm) (nn : ByteArray) (m : List Tm) : Int :=
  orI (compareBytes nm.toList nn.toList) (orI (compareInt l.length m.length) (orI (cmpT t u) (cmpList cmpT l m)))
theorem cmpA_zero (t u : Tm) (nm nn : ByteArray) (l m : List Tm) : cmpA t nm l u nn m = 0 ↔ (nm = nn ∧ t = u ∧ l = m) := by
  unfold cmpA orI
  have e1 := cmpBytes.eq nm.toList nn.toList
  have e2 := cmpInt.eq (l.length : Int) m.length
  have e3 := cmpTm.eq t u
  have e4 := (Cmp.list cmpTm).eq l m
  constructor
  · intro h
    split at h
    · exact absurd h (by assumption)
    · split at h
      · exact absurd h (by assumption)
      · split at h
        · exact absurd h (by assumption)
        · rename_i a b c
          exact ⟨ba_ext (e1.1 (by simpa using a)), e3.1 (by simpa using c), e4.1 h⟩
  · rintro ⟨rfl, rfl, rfl⟩
    rw [if_neg (by simp [cmpBytes.self]), if_neg (by simp [cmpInt.self]), if_neg (by simp [cmpTm.self])]
    exact (Cmp.list cmpTm).self _
end Go.Proofs.Ytnomgmlfagiffaa.T
/- CheckAtom, Fact, Vars, CompareAtoms in closed form: the program's and the document's are the same. -/
set_option linter.unusedVariables false
set_option linter.unusedSimpArgs false
namespace Go.Proofs.Ytnomgmlfagiffaa.T
open Go.RowKit Go.Lib Go.Proofs.YtnomgmlfagiffaaW.PrintWords Go.Proofs.Ytnomgmlfagiffaa.Hs
theorem cmpL_list (c : Tm → Tm → Int) : ∀ l m : List Tm, cmpL c l m = cmpList c l m
  | [], [] => rfl
  | [], _ :: _ => rfl
  | _ :: _, [] => rfl
  | x :: l, y :: m => by
    unfold cmpL cmpList
    rw [cmpL_list c l m]
    by_cases h : c x y = 0 <;> simp [h]
theorem cmpA_f (t u : Tm) (nm nn : ByteArray) (l m : List Tm) (ol : l.all okT = true) (om : m.all okT = true) (ll : l.length ≤ 9223372036854775807) (k : Nat) :
    term_CompareAtoms.f (k + 4) t.f0 t.f1 t.f2 nm l u.f0 u.f1 u.f2 nn m = some (cmpA t nm l u nn m) := by
  unfold term_CompareAtoms.f cmpA
  rw [cmpStr_f, cmpInt_f, cmpT_f, slices_CompareFunc_term.f, if_pos (by simp only [ol, om, Bool.true_and, decide_eq_true_eq]; exact ll)]
  simp only [Option.bind_some]
  rw [orI_f, cmpL_list]
  simp only [Option.bind_some]
  unfold orI
  by_cases h1 : compareBytes nm.toList nn.toList = 0
  · by_cases h2 : compareInt (l.length : Int) m.length = 0
    · by_cases h3 : cmpT t u = 0 <;> simp [h1, h2, h3]
    · simp [h1, h2]
  · simp [h1]
end Go.Proofs.Ytnomgmlfagiffaa.T
/- The laws' first call answers as the document fixes it. -/
namespace Go.Proofs.Ytnomgmlfagiffaa.T
open Go.RowKit Go.Lib Go.Proofs.YtnomgmlfagiffaaW.PrintWords
theorem first_f : hearsaylaw02_first.f = some true := by
  have e0 : (⟨#[]⟩ : ByteArray).toList = [] := by rw [toList_data]
  have e1 : matchL ⟨#[112]⟩ [(⟨3, 0, ⟨#[]⟩⟩ : Tm)] ⟨#[112]⟩ [⟨1, 5, ⟨#[]⟩⟩] [] ⟨0, 0, ⟨#[]⟩⟩ ⟨0, 0, ⟨#[]⟩⟩ = ([⟨0, ⟨1, 5, ⟨#[]⟩⟩⟩], true) := by
    simp [matchL, stepM, isVar, eqT, getM, putM, startM, e0]
  unfold hearsaylaw02_first.f term_Match.f
  rw [e1, if_pos (by decide)]
  simp [rd_T46, e0]
end Go.Proofs.Ytnomgmlfagiffaa.T
/- TermOrder: the plain law. -/
set_option linter.unusedVariables false
set_option linter.unusedSimpArgs false
namespace Go.Proofs.Ytnomgmlfagiffaa.T
open Go.RowKit Go.Lib Go.Proofs.YtnomgmlfagiffaaW.PrintWords Go.Proofs.Ytnomgmlfagiffaa.Hs
def cA (x y : Tm × ByteArray × List Tm) : Int := cmpA x.1 x.2.1 x.2.2 y.1 y.2.1 y.2.2
theorem cmpAC : Cmp cA :=
  Cmp.of_inj (Cmp.lex cmpBytes (Cmp.lex cmpInt (Cmp.lex cmpTm (Cmp.list cmpTm)))) (fun x : Tm × ByteArray × List Tm => (x.2.1.toList, ((x.2.2.length : Int), (x.1, x.2.2)))) (fun a b e => by
    simp only [Prod.mk.injEq] at e
    obtain ⟨h0, _, h1, h2⟩ := e
    exact Prod.ext h1 (Prod.ext (ba_ext h0) h2))
theorem cmpA_one (x y : Tm) (nm : ByteArray) : cmpA ⟨0, 0, ⟨#[]⟩⟩ nm [x] ⟨0, 0, ⟨#[]⟩⟩ nm [y] = cmpT x y := by
  have e1 : compareBytes nm.toList nm.toList = 0 := cmpBytes.self _
  have e2 : compareInt (([x] : List Tm).length : Int) (([y] : List Tm).length : Int) = 0 := cmpInt.self _
  have e3 : cmpT ⟨0, 0, ⟨#[]⟩⟩ ⟨0, 0, ⟨#[]⟩⟩ = 0 := cmpTm.self _
  unfold cmpA
  rw [e1, e2, e3]
  by_cases h : cmpT x y = 0 <;> simp [orI, cmpList, h]
theorem wrap_big (n : Nat) (h : n < 9223372036854775807) : wrap64 ((n : Int) + 1) = ((n + 1 : Nat) : Int) := by
  simp only [wrap64]
  omega
open Classical in
theorem eqT_fields (a b : Tm) : (a.f0 == b.f0 && (a.f1 == b.f1 && (a.f2.toList == b.f2.toList))) = decide (a = b) := by
  have h := eqT_iff a b
  unfold eqT at h
  rw [Bool.eq_iff_iff, decide_eq_true_iff]
  exact h
open Classical in
theorem terms_f (l m : List Tm) (hl : l.length = m.length) (ll : l.length ≤ 9223372036854775807) : ∀ k, l.length + 1 ≤ k → hearsaylaw02_terms.f k l m = some (decide (l = m)) := by
  intro k hk
  unfold hearsaylaw02_terms.f
  rw [if_pos (by omega)]
  suffices h : ∀ (n i k : Nat), l.length = i + n → n + 1 ≤ k → hearsaylaw02_terms.l0 k l m (i : Int) = some (decide (l.drop i = m.drop i)) by
    have := h l.length 0 k (by omega) hk
    simpa using this
  intro n
  induction n with
  | zero =>
    intro i k hi hk
    obtain ⟨k, rfl⟩ : ∃ j, k = j + 1 := ⟨k - 1, by omega⟩
    rw [hearsaylaw02_terms.l0, if_neg (by omega), List.drop_eq_nil_of_le (by omega), List.drop_eq_nil_of_le (by omega)]
    rfl
  | succ n ih =>
    intro i k hi hk
    obtain ⟨k, rfl⟩ : ∃ j, k = j + 1 := ⟨k - 1, by omega⟩
    have h1 : i < l.length := by omega
    have h2 : i < m.length := by omega
    rw [hearsaylaw02_terms.l0, if_pos (by omega), if_pos (by omega), if_pos (by omega), rdT h1, rdT h2, wrap_big i (by omega), ih (i + 1) k (by omega) (by omega)]
    have hiff : (l.drop i = m.drop i) ↔ (l[i] = m[i] ∧ l.drop (i + 1) = m.drop (i + 1)) := by
      rw [List.drop_eq_getElem_cons h1, List.drop_eq_getElem_cons h2]
      exact ⟨fun e => by injection e with a b; exact ⟨a, b⟩, fun ⟨a, b⟩ => by rw [a, b]⟩
    rw [show decide (l.drop i = m.drop i) = decide (l[i] = m[i] ∧ l.drop (i + 1) = m.drop (i + 1)) from decide_eq_decide.2 hiff]
    have e := eqT_fields l[i] m[i]
    have hneg : (!(l[i].f0 == m[i].f0) || (!(l[i].f1 == m[i].f1) || (!(l[i].f2.toList == m[i].f2.toList)))) = !decide (l[i] = m[i]) := by
      rw [← e]
      cases (l[i].f0 == m[i].f0) <;> cases (l[i].f1 == m[i].f1) <;> cases (l[i].f2.toList == m[i].f2.toList) <;> rfl
    rw [hneg]
    by_cases h : l[i] = m[i]
    · rw [show decide (l[i] = m[i]) = true from decide_eq_true h, if_neg (by simp)]
      simp [h]
    · rw [show decide (l[i] = m[i]) = false from decide_eq_false h, if_pos (by simp)]
      simp [h]
open Classical in
theorem same_f (t u : Tm) (nm nn : ByteArray) (l m : List Tm) (ll : l.length ≤ 9223372036854775807) (k : Nat) (hk : l.length + 1 ≤ k) :
    hearsaylaw02_same.f k t.f0 t.f1 t.f2 nm l u.f0 u.f1 u.f2 nn m = some (decide (nm = nn ∧ t = u ∧ l = m)) := by
  unfold hearsaylaw02_same.f
  by_cases hn : nm.toList = nn.toList
  · rw [if_pos hn, eqT_fields]
    by_cases ht : t = u
    · rw [if_pos (decide_eq_true ht)]
      by_cases hl : l.length = m.length
      · rw [terms_f l m hl ll k hk]
        simp [ba_ext hn, ht]
      · unfold hearsaylaw02_terms.f
        rw [if_neg (by omega)]
        have : ¬ l = m := fun e => hl (by rw [e])
        simp [this]
    · rw [if_neg (by simp [ht])]
      simp [ht]
  · rw [if_neg hn]
    have : ¬ nm = nn := fun e => hn (by rw [e])
    simp [this]
open Classical in
theorem order_l1 (t : Tm) (nm : ByteArray) (l L : List Tm) (hL : L.length = 3) (oL : L.all okT = true) (i K : Nat) (hi : i < 3) (h0 : ∀ k, K ≤ k → hearsaylaw02_TermOrder.l0 k L ((i + 1 : Nat) : Int) t.f0 t.f1 t.f2 nm l = some true) :
    ∀ (d j k : Nat), 3 = j + d → K + 2 * d + 10 ≤ k → hearsaylaw02_TermOrder.l1 k L (i : Int) (j : Int) t.f0 t.f1 t.f2 nm l = some true := by
  intro d
  induction d with
  | zero =>
    intro j k hj hk
    obtain ⟨k, rfl⟩ : ∃ n, k = n + 1 := ⟨k - 1, by omega⟩
    rw [hearsaylaw02_TermOrder.l1, if_neg (by omega), wrap_big i (by omega)]
    exact h0 k (by omega)
  | succ d ih =>
    intro j k hj hk
    obtain ⟨k, rfl⟩ : ∃ n, k = n + 6 := ⟨k - 6, by omega⟩
    have h1 : i < L.length := by omega
    have h2 : j < L.length := by omega
    have o1 : okT L[i] = true := List.all_eq_true.1 oL _ (List.getElem_mem h1)
    have o2 : okT L[j] = true := List.all_eq_true.1 oL _ (List.getElem_mem h2)
    rw [hearsaylaw02_TermOrder.l1, if_pos (by omega), if_pos (by omega), if_pos (by omega), if_pos (by omega), if_pos (by omega), rdT h1, rdT h2]
    have e1 := cmpA_f ⟨0, 0, ⟨#[]⟩⟩ ⟨0, 0, ⟨#[]⟩⟩ nm nm [L[i]] [L[j]] (by simp [o1]) (by simp [o2]) (by simp) (k + 1)
    have e2 := cmpT_f L[i] L[j] (k + 1)
    rw [cmpA_one] at e1
    simp only at e1
    rw [e1, e2]
    simp only [Option.bind_some, if_true]
    rw [eqT_fields, show ((cmpT L[i] L[j] == 0) != decide (L[i] = L[j])) = false by
      have h := cmpTm.eq L[i] L[j]
      by_cases e : L[i] = L[j]
      · rw [h.2 e]; simp [e]
      · have : ¬ cmpT L[i] L[j] = 0 := fun c => e (h.1 c)
        simp [e, this]]
    rw [hearsaylaw02_TermOrder.j4, if_neg (by simp), wrap_big j (by omega)]
    exact ih (j + 1) (k + 4) (by omega) (by omega)
theorem order_l0 (t : Tm) (nm : ByteArray) (l L : List Tm) (hL : L.length = 3) (oL : L.all okT = true) : ∀ (d i : Nat), 3 = i + d → ∃ K, ∀ k, K ≤ k → hearsaylaw02_TermOrder.l0 k L (i : Int) t.f0 t.f1 t.f2 nm l = some true := by
  intro d
  induction d with
  | zero =>
    intro i hi
    refine ⟨1, fun k hk => ?_⟩
    obtain ⟨k, rfl⟩ : ∃ n, k = n + 1 := ⟨k - 1, by omega⟩
    rw [hearsaylaw02_TermOrder.l0, if_neg (by omega), first_f]
    rfl
  | succ d ih =>
    intro i hi
    obtain ⟨K, hK⟩ := ih (i + 1) (by omega)
    refine ⟨K + 20, fun k hk => ?_⟩
    obtain ⟨k, rfl⟩ : ∃ n, k = n + 1 := ⟨k - 1, by omega⟩
    rw [hearsaylaw02_TermOrder.l0, if_pos (by omega)]
    exact order_l1 t nm l L hL oL i K (by omega) hK 3 0 k (by omega) (by omega)
theorem order_j0 (t u v : Tm) (nm nn no : ByteArray) (l m n : List Tm) (x y z : Int) (h1 : x ≤ 0 → y ≤ 0 → z ≤ 0) (h2 : 0 ≤ x → 0 ≤ y → 0 ≤ z) (h3 : x < 0 → y ≤ 0 → z < 0) (k : Nat) :
    hearsaylaw02_TermOrder.j0 (k + 1) x y z false t.f0 t.f1 t.f2 nm l u.f0 u.f1 u.f2 nn m v.f0 v.f1 v.f2 no n = hearsaylaw02_TermOrder.j1 k false t.f0 t.f1 t.f2 nm l u.f0 u.f1 u.f2 nn m v.f0 v.f1 v.f2 no n := by
  rw [hearsaylaw02_TermOrder.j0, if_neg (by simp)]
  repeat' split
  all_goals first
    | rfl
    | (exfalso; omega)
    | (rw [show decide (z ≥ 0) = false from decide_eq_false (by omega)])
open Classical in
theorem termOrder (t u v : Tm) (nm nn no : ByteArray) (l m n : List Tm) (ot : okT t = true) (ou : okT u = true) (ov : okT v = true) (ol : l.all okT = true) (om : m.all okT = true) (on : n.all okT = true) (ll : l.length ≤ 9223372036854775807) (lm : m.length ≤ 9223372036854775807) :
    ∃ k, hearsaylaw02_TermOrder.f k t.f0 t.f1 t.f2 nm l u.f0 u.f1 u.f2 nn m v.f0 v.f1 v.f2 no n = some true := by
  obtain ⟨K, hK⟩ := order_l0 t nm l [t, u, v] rfl (by simp [ot, ou, ov]) 3 0 (by omega)
  refine ⟨K + l.length + 14 + 4, ?_⟩
  unfold hearsaylaw02_TermOrder.f
  rw [cmpA_f t u nm nn l m ol om ll, cmpA_f u v nn no m n om on lm, cmpA_f t v nm no l n ol on ll, cmpA_f u t nn nm m l om ol lm]
  simp only [Option.bind_some]
  have c1 : cmpA t nm l u nn m = cA (t, nm, l) (u, nn, m) := rfl
  have c2 : cmpA u nn m v no n = cA (u, nn, m) (v, no, n) := rfl
  have c3 : cmpA t nm l v no n = cA (t, nm, l) (v, no, n) := rfl
  have c4 : cmpA u nn m t nm l = cA (u, nn, m) (t, nm, l) := rfl
  have hr := cmpAC.rng (t, nm, l) (u, nn, m)
  have ha := cmpAC.anti (t, nm, l) (u, nn, m)
  have ha2 := cmpAC.anti (u, nn, m) (v, no, n)
  have ha3 := cmpAC.anti (t, nm, l) (v, no, n)
  have t1 : cA (t, nm, l) (u, nn, m) ≤ 0 → cA (u, nn, m) (v, no, n) ≤ 0 → cA (t, nm, l) (v, no, n) ≤ 0 := cmpAC.le_trans
  have t2 : cA (v, no, n) (u, nn, m) ≤ 0 → cA (u, nn, m) (t, nm, l) ≤ 0 → cA (v, no, n) (t, nm, l) ≤ 0 := cmpAC.le_trans
  have t3 : cA (t, nm, l) (u, nn, m) < 0 → cA (u, nn, m) (v, no, n) ≤ 0 → cA (t, nm, l) (v, no, n) < 0 := cmpAC.lt_le_trans
  have hz := cmpA_zero t u nm nn l m
  rw [c1] at hz
  rw [c1, c2, c3, c4, ha]
  generalize cA (t, nm, l) (u, nn, m) = x at *
  generalize cA (u, nn, m) (v, no, n) = y at *
  generalize cA (t, nm, l) (v, no, n) = z at *
  rw [ha2, ha, ha3] at t2
  rw [if_neg (by omega), if_neg (by omega), if_pos (by simp only [wrap64]; omega), same_f t u nm nn l m ll _ (by omega)]
  simp only [Option.bind_some]
  rw [show ((x == 0) != decide (nm = nn ∧ t = u ∧ l = m)) = false by
    by_cases e : x = 0
    · have := hz.1 e; simp [e, this]
    · have : ¬ (nm = nn ∧ t = u ∧ l = m) := fun h => e (hz.2 h)
      simp [e, this]]
  rw [show K + l.length + 14 + 4 = (K + l.length + 17) + 1 by omega, order_j0 t u v nm nn no l m n x y z (by omega) (by omega) (by omega), show K + l.length + 17 = (K + l.length + 16) + 1 by omega, hearsaylaw02_TermOrder.j1, if_neg (by simp)]
  exact hK _ (by omega)
end Go.Proofs.Ytnomgmlfagiffaa.T
