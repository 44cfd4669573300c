/- Ord; PureA; GCls; GSpare; GTop: texts of this claim, laid together. -/
import Derived.Test.YtnomgmlfagiffaaM0Sd
import Derived.Lib.Bytealg
import Derived.Lib.Small
import Derived.Test.YtnomgmlfagiffaaM1Sd
import Derived.Test.YtnomgmlfagiffaaM2Sd
import Derived.Maps.Views
import Derived.DeepKeys5
import Derived.Deep.RegionHeld3
import Derived.Deep.DrawnRows
import Derived.Below
import Derived.WalkKit
import Derived.Lib.Walk
import Derived.Deep.LoopGhost
/- Orders: plain lemmas. -/
namespace Go.Proofs.Ytnomgmlfagiffaa.Hs
open Go.Lib

/-- A comparison that is a total order: -1, 0, 1. -/
structure Cmp {α : Type} (c : α → α → Int) : Prop where
  rng : ∀ a b, c a b = -1 ∨ c a b = 0 ∨ c a b = 1
  anti : ∀ a b, c b a = - c a b
  eq : ∀ a b, c a b = 0 ↔ a = b
  trans : ∀ a b d, c a b < 0 → c b d < 0 → c a d < 0

namespace Cmp
variable {α : Type} {c : α → α → Int}
theorem self (h : Cmp c) (a : α) : c a a = 0 := (h.eq a a).2 rfl
theorem le_trans (h : Cmp c) {a b d : α} (h1 : c a b ≤ 0) (h2 : c b d ≤ 0) : c a d ≤ 0 := by
  by_cases e1 : c a b = 0
  · rw [(h.eq a b).1 e1]; exact h2
  · by_cases e2 : c b d = 0
    · rw [← (h.eq b d).1 e2]; exact h1
    · have := h.trans a b d (by omega) (by omega); omega
end Cmp

/-- slices.CompareFunc -/
def cmpList {α : Type} (c : α → α → Int) : List α → List α → Int
  | [], [] => 0
  | [], _ :: _ => -1
  | _ :: _, [] => 1
  | a :: aa, b :: bs => if c a b ≠ 0 then c a b else cmpList c aa bs

theorem Cmp.list {α : Type} {c : α → α → Int} (h : Cmp c) : Cmp (cmpList c) where
  rng a := by
    induction a with
    | nil => intro b; cases b <;> simp [cmpList]
    | cons x a ih =>
      intro b
      cases b with
      | nil => simp [cmpList]
      | cons y b => unfold cmpList; split; · exact h.rng x y
                    · exact ih b
  anti a := by
    induction a with
    | nil => intro b; cases b <;> simp [cmpList]
    | cons x a ih =>
      intro b
      cases b with
      | nil => simp [cmpList]
      | cons y b =>
        unfold cmpList
        rw [h.anti x y, ih b]
        split <;> split <;> omega
  eq a := by
    induction a with
    | nil => intro b; cases b <;> simp [cmpList]
    | cons x a ih =>
      intro b
      cases b with
      | nil => simp [cmpList]
      | cons y b =>
        unfold cmpList
        by_cases e : c x y = 0
        · rw [if_neg (by simp [e]), ih b, (h.eq x y).1 e]; simp
        · rw [if_pos (by simpa using e)]
          constructor
          · intro e'; exact absurd e' e
          · intro e'; injection e' with e1 _; exact absurd ((h.eq x y).2 e1) e
  trans a := by
    induction a with
    | nil => intro b d; cases b <;> cases d <;> simp [cmpList]
    | cons x a ih =>
      intro b d
      cases b with
      | nil => simp [cmpList]
      | cons y b =>
        cases d with
        | nil => simp [cmpList]
        | cons z d =>
          unfold cmpList
          intro p q
          by_cases h1 : c x y = 0
          · have e1 := (h.eq _ _).1 h1
            rw [if_neg (by simp [h1])] at p
            by_cases h2 : c y z = 0
            · rw [if_neg (by simp [h2])] at q
              rw [e1, if_neg (by simp [h2])]
              exact ih b d p q
            · rw [if_pos (by simpa using h2)] at q
              rw [e1, if_pos (by simpa using h2)]; exact q
          · rw [if_pos (by simpa using h1)] at p
            by_cases h2 : c y z = 0
            · rw [← (h.eq _ _).1 h2, if_pos (by simpa using h1)]; exact p
            · rw [if_pos (by simpa using h2)] at q
              have := h.trans _ _ _ p q
              rw [if_pos (by omega)]; exact this

end Go.Proofs.Ytnomgmlfagiffaa.Hs
/- What the printed functions of package term answer, in closed form. -/
set_option linter.unusedVariables false
set_option linter.unusedSimpArgs false
namespace Go.Proofs.Ytnomgmlfagiffaa.T
open Go.RowKit Go.Lib Go.Proofs.YtnomgmlfagiffaaW.PrintWords Go.Proofs.Ytnomgmlfagiffaa.Hs
def isConst (t : Tm) : Bool := (decide (t.f0 = 1) && (t.f2.toList == ([] : List UInt8))) || (decide (t.f0 = 2) && (decide (t.f1 = 0) && decide ((t.f2.size : Int) ≤ 64)))
theorem const_f (t : Tm) : term_Const.f t.f0 t.f1 t.f2 = some (isConst t) := by
  unfold term_Const.f isConst
  by_cases h : t.f0 = 1
  · simp [h]
  · by_cases h2 : t.f0 = 2
    · by_cases h3 : t.f1 = 0 <;> simp [h2, h3]
    · simp [h, h2]
def isPrin (t : Tm) : Bool := isConst t && (decide (t.f0 = 2) && (t.f2.toList != ([] : List UInt8)))
theorem prin_f (t : Tm) : term_Principal.f t.f0 t.f1 t.f2 = some (isPrin t) := by
  unfold term_Principal.f isPrin
  rw [const_f]
  cases isConst t
  · simp
  · by_cases h : t.f0 = 2 <;> simp [h]
theorem ba_ext {a b : ByteArray} (h : a.toList = b.toList) : a = b := by
  rw [toList_data, toList_data] at h
  exact WideShapes.bytes_inj h
theorem eqT_iff (a b : Tm) : eqT a b = true ↔ a = b := by
  unfold eqT
  simp only [Bool.and_eq_true, beq_iff_eq]
  constructor
  · rintro ⟨h0, h1, h2⟩
    cases a; cases b
    simp only at h0 h1 h2
    subst h0 h1
    rw [ba_ext h2]
  · rintro rfl
    exact ⟨rfl, rfl, rfl⟩
end Go.Proofs.Ytnomgmlfagiffaa.T
/- Maps from Term to Term: what a key reads as; the classes of Unify as a function. -/
set_option linter.unusedVariables false
set_option linter.unusedSimpArgs false
namespace Go.Proofs.Ytnomgmlfagiffaa.T
open Go.RowKit Go.Maps Go.Proofs.YtnomgmlfagiffaaW.PrintWords Go.Proofs.YtnomgmlfagiffaaW.PrintLast
def litsT (t : Tm) : List Lit := [.int .i64 t.f0, .int .i64 t.f1, .string t.f2.data.toList]
def keyT (t : Tm) : Lit := .string (keyBytes (litsT t))
theorem keyT_lit (t : Tm) : WideAt.IsKeyLit (keyT t) := trivial
theorem keyT_inj {t u : Tm} (ot : okT t = true) (ou : okT u = true) (h : keyT t = keyT u) : t = u := by
  simp only [okT, Bool.and_eq_true, decide_eq_true_eq] at ot ou
  have hw : ∀ x : Tm, inI x.f0 = true ∧ inI x.f1 = true ∧ x.f2.size ≤ 9223372036854775807 → ∀ a ∈ litsT x, a.keyWf := by
    intro x hx a ha
    simp only [litsT, List.mem_cons, List.not_mem_nil, or_false] at ha
    rcases ha with rfl | rfl | rfl
    · exact inI_wf hx.1
    · exact inI_wf hx.2.1
    · show x.f2.data.toList.length ≤ maxLen
      have : x.f2.data.toList.length = x.f2.size := rfl
      rw [this]
      simpa [maxLen] using hx.2.2
  have e := keyBytes_inj (l := litsT t) (l' := litsT u) ⟨rfl, rfl, trivial, trivial⟩ (hw t ot) (hw u ou) (by injection h)
  simp only [litsT, List.cons.injEq, Lit.int.injEq, Lit.string.injEq, true_and, and_true] at e
  obtain ⟨e0, e1, e2⟩ := e
  cases t; cases u
  simp only at e0 e1 e2
  subst e0 e1
  congr 1
  exact WideShapes.bytes_inj e2
theorem lawT : Keyed Try.prog 23 := Keyed.of_law (deep_law_gate (by kernel_rfl) (of_decide_eq_true (by kernel_rfl)) (of_decide_eq_true (by kernel_rfl)) (by kernel_rfl) (by kernel_rfl))
theorem keyLitsT (d : Nat) (t : Tm) (ot : okT t = true) : Try.prog.keyLits (d + 2) 23 [.int .i64 t.f0, .int .i64 t.f1, .string t.f2] = some (litsT t) := by
  simp only [okT, Bool.and_eq_true, decide_eq_true_eq] at ot
  have c0 : Try.prog.cellsOf 23 = 3 := by kernel_rfl
  have c1 : Try.prog.cellsOf 3 = 1 := by kernel_rfl
  have c2 : Try.prog.cellsOf 9 = 1 := by kernel_rfl
  have w0 := inI_wf ot.1
  have w1 := inI_wf ot.2.1
  have w2 : t.f2.size ≤ maxLen := by simpa [maxLen] using ot.2.2
  simp only [Program.keyLits, Try.underlying23, Try.underlying3, Try.underlying9, c0, c1, c2]
  simp [litsT, w0, w1, w2, c1, c2]
theorem keyOfT (t : Tm) (ot : okT t = true) : keyOf Try.prog 23 (encT t) = some (keyT t) := by
  have h1 : Try.prog.keyType 23 = true := by kernel_rfl
  have h2 : (encT t).formed Try.prog 23 = true := by
    simp only [encT, Value.formed, Try.underlying23]
    rw [show Try.prog.cellsOf 23 = 3 by kernel_rfl]
    rfl
  have h3 : ∃ d, Try.prog.types.size + 1 = d + 2 := ⟨Try.prog.types.size - 1, by have : 0 < Try.prog.types.size := of_decide_eq_true (by kernel_rfl); omega⟩
  obtain ⟨d, hd⟩ := h3
  simp only [keyOf, Try.underlying23, h1, h2, Bool.and_self, if_true, hd]
  rw [show (encT t).cells.toList = [.int .i64 t.f0, .int .i64 t.f1, .string t.f2] from rfl, keyLitsT d t ot]
  rfl
/-- The classes: what each term is linked to. -/
abbrev Cl := Tm → Option Tm
noncomputable def Cl.set (C : Cl) (t u : Tm) : Cl := fun x => open Classical in if x = t then some u else C x
structure ClsD (D : DataW Tm) (C : Cl) : Prop where
  map : IsMap D
  has : ∀ t, okT t = true → Maps.has D (keyT t) = (C t).isSome
  key : ∀ t u, okT t = true → C t = some u → ∀ z, D.atKey (keyT t) z = .held u
  free : ∀ t, okT t = true → C t = none → ∀ z, D.atKey (keyT t) z = z
theorem ClsD.nil : ClsD (.map []) (fun _ => none) := ⟨⟨[], rfl⟩, fun _ _ => rfl, fun _ _ _ h => (by cases h), fun _ _ _ _ => rfl⟩
theorem ClsD.put {D : DataW Tm} {C : Cl} (h : ClsD D C) {t u : Tm} (ot : okT t = true) : ClsD (D.put (keyT t) (.held u)) (C.set t u) := by
  classical
  refine ⟨?_, fun x ox => ?_, fun x y ox hx z => ?_, fun x ox hx z => ?_⟩
  · obtain ⟨es, rfl⟩ := h.map
    exact ⟨_, rfl⟩
  · unfold Cl.set
    by_cases e : x = t
    · subst e; rw [if_pos rfl, has_put_same h.map (keyT_lit x)]; rfl
    · rw [if_neg e, has_put_other (fun e' => e (keyT_inj ox ot e')), h.has x ox]
  · unfold Cl.set at hx
    by_cases e : x = t
    · subst e; rw [if_pos rfl] at hx; injection hx with hx; rw [atKey_put_same h.map (keyT_lit x), hx]
    · rw [if_neg e] at hx; rw [atKey_put_other (fun e' => e (keyT_inj ox ot e')), h.key x y ox hx]
  · unfold Cl.set at hx
    by_cases e : x = t
    · subst e; rw [if_pos rfl] at hx; cases hx
    · rw [if_neg e] at hx; rw [atKey_put_other (fun e' => e (keyT_inj ox ot e')), h.free x ox hx]
end Go.Proofs.Ytnomgmlfagiffaa.T
/- lend, lent: lists of their own with a mark in the room behind; still, kept: are they as they were. -/
set_option linter.unusedVariables false
set_option linter.unusedSimpArgs false
namespace Go.Proofs.Ytnomgmlfagiffaa.T
open Go.RowKit Go.Proofs.YtnomgmlfagiffaaW.PrintWords Go.Proofs.YtnomgmlfagiffaaW.PrintLast
attribute [local go_sem high] eqA23 eqA46
theorem wrap_succ (n : Nat) (h : n < smallN) : wrap64 ((n : Int) + 1) = ((n + 1 : Nat) : Int) := by
  simp [smallN] at h; unfold wrap64; omega
theorem bindings_self (s : List Bd) (ls : s.length < smallN) : ∀ k, s.length + 1 ≤ k → hearsaylaw02_bindings.f k s s = some true := by
  intro k hk
  unfold hearsaylaw02_bindings.f
  rw [if_pos rfl]
  suffices h : ∀ (n i k : Nat), s.length = i + n → n + 1 ≤ k → hearsaylaw02_bindings.l0 k s s (i : Int) = some true from h s.length 0 k (by omega) hk
  intro n
  induction n with
  | zero =>
    intro i k hi hk
    obtain ⟨k, rfl⟩ : ∃ m, k = m + 1 := ⟨k - 1, by omega⟩
    rw [hearsaylaw02_bindings.l0, if_neg (by omega)]
  | succ n ih =>
    intro i k hi hk
    obtain ⟨k, rfl⟩ : ∃ m, k = m + 1 := ⟨k - 1, by omega⟩
    rw [hearsaylaw02_bindings.l0, if_pos (by omega), if_pos (by omega), if_pos (by omega), if_neg (by simp), wrap_succ i (by omega)]
    exact ih (i + 1) k (by omega) (by omega)
end Go.Proofs.Ytnomgmlfagiffaa.T
/- The walk of (classes).top. -/
set_option linter.unusedVariables false
set_option linter.unusedSimpArgs false
namespace Go.Proofs.Ytnomgmlfagiffaa.T
open Go.RowKit Go.Maps Go.Proofs.YtnomgmlfagiffaaW.PrintWords Go.Proofs.YtnomgmlfagiffaaW.PrintLast
attribute [local go_sem high] eqA23
/-- Which term stands for the class; the map behind the question. -/
inductive Top : Cl → Tm → Tm → Cl → Prop
  | new {C : Cl} {t : Tm} (h : C t = none) : Top C t t (C.set t t)
  | self {C : Cl} {t : Tm} (h : C t = some t) : Top C t t C
  | step {C C' : Cl} {t u r : Tm} (h : C t = some u) (hu : u ≠ t) (h2 : Top C u r C') : Top C t r C'
def rankT (t : Tm) : Nat := if isVar t then t.f1.toNat + 1 else 0
structure InvC (C : Cl) : Prop where
  ok : ∀ t u, C t = some u → okT u = true
  down : ∀ t u, C t = some u → u ≠ t → rankT u < rankT t
section
variable {ops : Array Oper} {rest : List Oper} {o : Oper} {a : Act} {Q : Exit → Act → World → Prop}
/-- 'u, ok := c[t]'. -/
theorem lookC_event (w : World) (hg : o.guard = none) (mo x : Operand) (hop : o.op = Op.lookup 51 mo x true) (b n : Nat) (D : DataW Tm) (C : Cl) (t u : Tm) (ob : Bool)
    (hm : a.eval mo = .map (some b)) (hown : w.ownsMap Try.prog 23 RT b n D) (hC : ClsD D C) (hx : a.eval x = .agg #[.int .i64 t.f0, .int .i64 t.f1, .string t.f2]) (ot : okT t = true) (ht : (C t).getD ⟨0, 0, ⟨#[]⟩⟩ = u) (hob : (C t).isSome = ob)
    (hK : wpList Try.prog ops Q rest (a.put o.dst (.tuple #[.agg #[.int .i64 u.f0, .int .i64 u.f1, .string u.f2], .bool ob])) w) :
    wpList Try.prog ops Q (o :: rest) a w := by
  refine wpList_lookup_own_ok w hg mo x 51 hop 23 23 lawT Try.underlying51 RT (zeroT w) _ _ (RT_enc _) b n _ hm hown _ _ hx (keyOfT t ot) (fun v' ps hv' => ?_)
  rw [hC.has t ot, hob]
  obtain ⟨t', rfl, e⟩ := RT_inv hv'
  have : t' = u := by
    injection e with e _
    cases hgm : C t with
    | none => rw [hgm] at ht; rw [hC.free t ot hgm] at e; injection e with e; rw [← ht, ← e]; rfl
    | some t2 => rw [hgm] at ht; rw [hC.key t t2 ot hgm] at e; injection e with e; rw [← ht, ← e]; rfl
  rw [this]
  exact hK
/-- 'c[t] = u'. -/
theorem updC_event (w : World) (hg : o.guard = none) (mo x y : Operand) (hop : o.op = Op.mapUpdate 51 mo x y) (b n : Nat) (D : DataW Tm) (C : Cl) (t u : Tm)
    (hm : a.eval mo = .map (some b)) (hown : w.ownsMap Try.prog 23 RT b n D) (hC : ClsD D C) (hn : n < maxLen) (hx : a.eval x = .agg #[.int .i64 t.f0, .int .i64 t.f1, .string t.f2]) (hy : a.eval y = .agg #[.int .i64 u.f0, .int .i64 u.f1, .string u.f2]) (ot : okT t = true)
    (hK : ∀ w', w'.ownsMap Try.prog 23 RT b (n + 1) (D.put (keyT t) (.held u)) → w.grownBy w' (some b) → wpList Try.prog ops Q rest (a.put o.dst undef) w') :
    wpList Try.prog ops Q (o :: rest) a w :=
  wpList_mapUpdate_own w hg mo x y 51 hop 23 23 lawT Try.underlying51 RT b n _ hm hown hn _ _ _ hx hy (keyOfT t ot) (.held u) [] (RT_enc u) (fun w' h1 h2 => hK w' h1 h2)
end
theorem mapT_below {w w' : World} {b n : Nat} {D : DataW Tm} (h : w.ownsMap Try.prog 23 RT b n D) (hb : Below w.heap.size w w') : w'.ownsMap Try.prog 23 RT b n D := by
  have hlt := h.lt
  obtain ⟨es, clock, hb2, F, hs, hD⟩ := h
  exact ⟨es, clock, (hb.block b hlt).trans hb2, F, hs, hD⟩
theorem mapT_set {W : World} {b n : Nat} {D : DataW Tm} (h : W.ownsMap Try.prog 23 RT b n D) {p : Addr} (hp : b < p.block) (u : Value) : (W.setCell p u).ownsMap Try.prog 23 RT b n D := by
  obtain ⟨es, clock, hb2, F, hs, hD⟩ := h
  exact ⟨es, clock, (Below.heap_setCell W p u b (by omega)).trans hb2, F, hs, hD⟩
theorem grown_set {w W : World} {row : Option Nat} (h : w.grownBy W row) {p : Addr} (hp : w.heap.size ≤ p.block) (u : Value) : w.grownBy (W.setCell p u) row :=
  ⟨h.os, h.tape, h.output, by simpa [World.setCell] using h.size, fun i hi hr => (Below.heap_setCell W p u i (by omega)).trans (h.block i hi hr)⟩
set_option maxHeartbeats 8000000 in
set_option maxRecDepth 100000 in
theorem top_calls (b n : Nat) (D : DataW Tm) (C : Cl) (t : Tm) (w : World) (hm : w.ownsMap Try.prog 23 RT b n D) (hC : ClsD D C) (hI : InvC C) (ot : okT t = true) (hn : n < maxLen) :
    Calls Try.prog 30 #[.map (some b), .agg #[.int .i64 t.f0, .int .i64 t.f1, .string t.f2]] w fun e w' => ∃ r C' D', e = .returned (.agg #[.int .i64 r.f0, .int .i64 r.f1, .string r.f2]) ∧ Top C t r C' ∧ okT r = true ∧ ClsD D' C' ∧ w'.ownsMap Try.prog 23 RT b (n + 1) D' ∧ w.grownBy w' (some b) := by
  have hu23 := Try.underlying23
  have HM := Aside0.mk hm
  have HC := Aside0.mk hC
  have HI := Aside0.mk hI
  have OT := Aside0.mk ot
  have HN := Aside0.mk hn
  have HLT := Aside0.mk hm.lt
  clear hm hC hI ot hn
  go_enter Try.func30, Try.ntmps30
  go_wp2_with (first
    | ((with_reducible refine gate_dst (N := 3) rfl ?_); refine box_event ?hg (N := 3) ?hd (cs := #[.int .i64 t.f0, .int .i64 t.f1, .string t.f2]) (t := 23) ?hr ?_; (case hd => rfl); (case hg => rfl); (case hr => first | (go_simp; done) | (go_simp; rfl)); intro b3 hb3 w1 hbox hb; have K3 := Aside0.mk hbox; have HB1 := Aside0.mk hb; have G3 := Aside0.mk (show w.heap.size ≤ b3 by omega); clear hb3 hbox hb)
    | ((with_reducible refine gate_dst (N := 4) rfl ?_); refine box_event ?hg (N := 4) ?hd (cs := #[.int .i64 0, .int .i64 0, .string (⟨#[]⟩ : ByteArray)]) (t := 23) ?hr ?_; (case hd => rfl); (case hg => rfl); (case hr => first | (go_simp; done) | (go_simp; rfl)); intro b4 hb4 w2 hbox hb; have K32 := Aside0.mk (blk_below K3.out hb); have K4 := Aside0.mk hbox; have HB2 := Aside0.mk (below_step HB1.out hb); have G4 := Aside0.mk (show w.heap.size ≤ b4 by have := HB1.out.size; omega); have N34 := Aside0.mk (show b3 ≠ b4 by have := blk_lt K3.out; omega); clear hb4 hbox hb K3 HB1)
    | go_in)
  (try simp only [Act.put, List.setIfInBounds_toArray, List.set_cons_zero, List.set_cons_succ])
  go_loopg [5] (rankT t + 1) (fun gg s5 wr => ∃ x : Tm, Aside0 (okT x = true) ∧ Aside0 (rankT x < gg) ∧ Aside0 (∀ r C', Top C x r C' → Top C t r C') ∧ Aside0 (wr.heap[b3]? = some (.cells #[.int .i64 x.f0, .int .i64 x.f1, .string x.f2] 23 (0, 0))) ∧ Aside0 (wr.heap[b4]? = some (.cells #[.int .i64 0, .int .i64 0, .string (⟨#[]⟩ : ByteArray)] 23 (0, 0))) ∧ Aside0 (Below w.heap.size w wr))
  case atStart => exact ⟨t, OT, ⟨by omega⟩, ⟨fun r C' h => h⟩, K32, K4, HB2⟩
  case round =>
    clear K32 K4 HB2
    obtain ⟨x, OX, HR, HT, K3, K4, HB⟩ := hrel
    have HMR := Aside0.mk (mapT_below HM.out HB.out)
    have x0 := (blk_cell K3.out 0).trans rfl
    have x1 := (blk_cell K3.out 1).trans rfl
    have x2 := (blk_cell K3.out 2).trans rfl
    have xa0 := fun o => (blk_cell (blk_alloc K3.out o) 0).trans rfl
    have xa1 := fun o => (blk_cell (blk_alloc K3.out o) 1).trans rfl
    have xa2 := fun o => (blk_cell (blk_alloc K3.out o) 2).trans rfl
    cases hc : C x with
    | none =>
      have HL := Aside0.mk (show (C x).getD ⟨0, 0, ⟨#[]⟩⟩ = ⟨0, 0, ⟨#[]⟩⟩ ∧ (C x).isSome = false by rw [hc]; exact ⟨rfl, rfl⟩)
      have HCX := Aside0.mk hc
      clear hc
      go_wp2_with (first
        | (at_lookup; refine lookC_event _ rfl _ _ rfl b n D C x ⟨0, 0, ⟨#[]⟩⟩ false rfl HMR.out HC.out rfl OX.out HL.out.1 HL.out.2 ?_)
        | (at_mapUpdate; refine updC_event _ rfl _ _ _ rfl b n D C x x rfl (HMR.out.alloc _) HC.out HN.out rfl rfl OX.out ?_; intro w3 hm3 hg3; have HM3 := Aside0.mk hm3; have HG3 := Aside0.mk hg3; have K33 := Aside0.mk (blk_grown (blk_alloc K3.out _) hg3 (by have := G3.out; have := HLT.out; simp; omega)); have K43 := Aside0.mk (blk_grown (blk_alloc K4.out _) hg3 (by have := G4.out; have := HLT.out; simp; omega)); have HGW := Aside0.mk (World.grownBy.trans (grown_of_below (below_alloc HB.out _) (some b)) hg3); clear hm3 hg3 x0 x1 x2 xa0 xa1 xa2; have y0 := (blk_cell K33.out 0).trans rfl; have y1 := (blk_cell K33.out 1).trans rfl; have y2 := (blk_cell K33.out 2).trans rfl; have z0 := (blk_cell K43.out 0).trans rfl; have z1 := (blk_cell K43.out 1).trans rfl; have z2 := (blk_cell K43.out 2).trans rfl; have f0 := blk_frozen K43.out 0; have f1 := blk_frozen K43.out 1; have f2 := blk_frozen K43.out 2)
        | go_in)
      refine bodyPost_ret (results_cell_row rfl _ _ b4 23 #[.int .i64 x.f0, .int .i64 x.f1, .string x.f2] (0, 0) _ rfl (by refine blk_put (cs := #[.int .i64 x.f0, .int .i64 x.f1, .string (⟨#[]⟩ : ByteArray)]) ?_ 2 _ rfl; refine blk_put (cs := #[.int .i64 x.f0, .int .i64 0, .string (⟨#[]⟩ : ByteArray)]) ?_ 1 _ rfl; refine blk_put (cs := #[.int .i64 0, .int .i64 0, .string (⟨#[]⟩ : ByteArray)]) ?_ 0 _ rfl; exact K43.out) Try.underlying23 rfl (by kernel_rfl)) rfl ?_
      have hlb : b < b4 := by have := G4.out; have := HLT.out; omega
      exact ⟨x, C.set x x, _, rfl, HT.out _ _ (.new HCX.out), OX.out, HC.out.put OX.out, mapT_set (mapT_set (mapT_set HM3.out hlb _) hlb _) hlb _, grown_set (grown_set (grown_set HGW.out G4.out _) G4.out _) G4.out _⟩
    | some u =>
      have HL := Aside0.mk (show (C x).getD ⟨0, 0, ⟨#[]⟩⟩ = u ∧ (C x).isSome = true by rw [hc]; exact ⟨rfl, rfl⟩)
      have HCX := Aside0.mk hc
      have OU := Aside0.mk (HI.out.ok x u hc)
      have z0 := fun o => (blk_cell (blk_alloc K4.out o) 0).trans rfl
      have z1 := fun o => (blk_cell (blk_alloc K4.out o) 1).trans rfl
      have z2 := fun o => (blk_cell (blk_alloc K4.out o) 2).trans rfl
      have f0 := fun o => blk_frozen (blk_alloc K4.out o) 0
      have f1 := fun o => blk_frozen (blk_alloc K4.out o) 1
      have f2 := fun o => blk_frozen (blk_alloc K4.out o) 2
      have v0 := fun o => blk_frozen (blk_alloc K3.out o) 0
      have v1 := fun o => blk_frozen (blk_alloc K3.out o) 1
      have v2 := fun o => blk_frozen (blk_alloc K3.out o) 2
      clear hc
      by_cases he : eqT u x = true
      · have hq : (u.f0 == x.f0 && (u.f1 == x.f1 && (u.f2.toList == x.f2.toList))) = true := he
        have HE := Aside0.mk ((eqT_iff u x).1 he)
        clear he
        go_wp2_with (first
          | (at_lookup; refine lookC_event _ rfl _ _ rfl b n D C x u true rfl HMR.out HC.out rfl OX.out HL.out.1 HL.out.2 ?_)
          | go_in)
        refine bodyPost_ret (results_cell_row rfl _ _ b4 23 #[.int .i64 x.f0, .int .i64 x.f1, .string x.f2] (0, 0) _ rfl (by refine blk_put (cs := #[.int .i64 x.f0, .int .i64 x.f1, .string (⟨#[]⟩ : ByteArray)]) ?_ 2 _ rfl; refine blk_put (cs := #[.int .i64 x.f0, .int .i64 0, .string (⟨#[]⟩ : ByteArray)]) ?_ 1 _ rfl; refine blk_put (cs := #[.int .i64 0, .int .i64 0, .string (⟨#[]⟩ : ByteArray)]) ?_ 0 _ rfl; exact blk_alloc K4.out _) Try.underlying23 rfl (by kernel_rfl)) rfl ?_
        have hlb : b < b4 := by have := G4.out; have := HLT.out; omega
        exact ⟨x, C, D, rfl, HT.out _ _ (.self (by rw [HCX.out, HE.out])), OX.out, HC.out, (mapT_set (mapT_set (mapT_set (HMR.out.alloc _) hlb _) hlb _) hlb _).mono (Nat.le_succ n), grown_set (grown_set (grown_set (grown_of_below (below_alloc HB.out _) _) G4.out _) G4.out _) G4.out _⟩
      · have hq : (u.f0 == x.f0 && (u.f1 == x.f1 && (u.f2.toList == x.f2.toList))) = false := Bool.eq_false_iff.2 he
        have HE := Aside0.mk (show u ≠ x from fun e => he ((eqT_iff u x).2 e))
        clear he
        go_wp2_with (first
          | (at_lookup; refine lookC_event _ rfl _ _ rfl b n D C x u true rfl HMR.out HC.out rfl OX.out HL.out.1 HL.out.2 ?_)
          | go_in)
        go_roundg (rankT u + 1)
        case measure => have := HI.out.down x u HCX.out HE.out; have := HR.out; omega
        case rel =>
          have hne : b4 ≠ b3 := fun e => N34.out e.symm
          refine ⟨u, OU, ⟨by omega⟩, ⟨fun r C' h => HT.out _ _ (.step HCX.out HE.out h)⟩, ⟨?_⟩, ⟨?_⟩, ⟨?_⟩⟩
          · refine blk_put (cs := #[.int .i64 u.f0, .int .i64 u.f1, .string x.f2]) ?_ 2 _ rfl
            refine blk_put (cs := #[.int .i64 u.f0, .int .i64 x.f1, .string x.f2]) ?_ 1 _ rfl
            refine blk_put (cs := #[.int .i64 x.f0, .int .i64 x.f1, .string x.f2]) ?_ 0 _ rfl
            exact blk_alloc K3.out _
          · exact (Below.heap_setCell _ _ _ b4 hne).trans ((Below.heap_setCell _ _ _ b4 hne).trans ((Below.heap_setCell _ _ _ b4 hne).trans (blk_alloc K4.out _)))
          · exact below_set (below_set (below_set (below_alloc HB.out _) G3.out) G3.out) G3.out
end Go.Proofs.Ytnomgmlfagiffaa.T
