/- Orders: plain lemmas. -/
import Derived.Lib.Bytealg
import Derived.Lib.Small
namespace Go.Proofs.YtnomgmlfagiffaaDoor.Hs
open Go.Lib

/-- A comparison that is a total order: -1, 0, 1. -/
structure Cmp {α : Type} (c : α → α → Int) : Prop where
  rng : ∀ a b, c a b = -1 ∨ c a b = 0 ∨ c a b = 1
  anti : ∀ a b, c b a = - c a b
  eq : ∀ a b, c a b = 0 ↔ a = b
  trans : ∀ a b d, c a b < 0 → c b d < 0 → c a d < 0

namespace Cmp
variable {α : Type} {c : α → α → Int}
theorem self (h : Cmp c) (a : α) : c a a = 0 := (h.eq a a).2 rfl
theorem le_trans (h : Cmp c) {a b d : α} (h1 : c a b ≤ 0) (h2 : c b d ≤ 0) : c a d ≤ 0 := by
  by_cases e1 : c a b = 0
  · rw [(h.eq a b).1 e1]; exact h2
  · by_cases e2 : c b d = 0
    · rw [← (h.eq b d).1 e2]; exact h1
    · have := h.trans a b d (by omega) (by omega); omega
end Cmp

theorem cmpInt : Cmp compareInt where
  rng a b := by unfold compareInt; split <;> (try split) <;> simp
  anti a b := by unfold compareInt; split <;> split <;> (try split) <;> omega
  eq a b := by unfold compareInt; split <;> (try split) <;> constructor <;> intro h <;> omega
  trans a b d := by unfold compareInt; split <;> split <;> (try split) <;> (try split) <;> (try split) <;> omega

theorem u8_tri (a b : UInt8) : a < b ∨ a = b ∨ b < a := by
  rcases Nat.lt_trichotomy a.toNat b.toNat with h | h | h
  · exact .inl (UInt8.lt_iff_toNat_lt.2 h)
  · exact .inr (.inl (UInt8.toNat_inj.1 h))
  · exact .inr (.inr (UInt8.lt_iff_toNat_lt.2 h))
theorem u8_asymm {a b : UInt8} (h : a < b) : ¬ b < a := by rw [UInt8.lt_iff_toNat_lt] at *; omega
theorem u8_irrefl (a : UInt8) : ¬ a < a := by rw [UInt8.lt_iff_toNat_lt]; omega
theorem u8_trans {a b d : UInt8} (h : a < b) (k : b < d) : a < d := by rw [UInt8.lt_iff_toNat_lt] at *; omega

theorem cmpBytes : Cmp compareBytes where
  rng a := by
    induction a with
    | nil => intro b; cases b <;> simp [compareBytes]
    | cons x a ih =>
      intro b
      cases b with
      | nil => simp [compareBytes]
      | cons y b => unfold compareBytes; split; · simp
                    · split; · simp
                      · exact ih b
  anti a := by
    induction a with
    | nil => intro b; cases b <;> simp [compareBytes]
    | cons x a ih =>
      intro b
      cases b with
      | nil => simp [compareBytes]
      | cons y b =>
        unfold compareBytes
        rcases u8_tri x y with h | h | h
        · simp only [if_neg (u8_asymm h), if_pos h]; decide
        · subst h; simp only [if_neg (u8_irrefl x)]; exact ih b
        · simp only [if_pos h, if_neg (u8_asymm h)]
  eq a := by
    induction a with
    | nil => intro b; cases b <;> simp [compareBytes]
    | cons x a ih =>
      intro b
      cases b with
      | nil => simp [compareBytes]
      | cons y b =>
        unfold compareBytes
        rcases u8_tri x y with h | h | h
        · rw [if_pos h]; simp; intro e; subst e; exact absurd h (u8_irrefl x)
        · subst h; rw [if_neg (u8_irrefl x), if_neg (u8_irrefl x)]; simp [ih b]
        · rw [if_neg (u8_asymm h), if_pos h]; simp; intro e; subst e; exact absurd h (u8_irrefl x)
  trans a := by
    induction a with
    | nil => intro b d; cases b <;> cases d <;> simp [compareBytes]
    | cons x a ih =>
      intro b d
      cases b with
      | nil => simp [compareBytes]
      | cons y b =>
        cases d with
        | nil => simp [compareBytes]
        | cons z d =>
          unfold compareBytes
          rcases u8_tri x y with h | h | h <;> rcases u8_tri y z with h' | h' | h'
          · intros; rw [if_pos (u8_trans h h')]; decide
          · subst h'; intros; rw [if_pos h]; decide
          · intro _ k; rw [if_neg (u8_asymm h'), if_pos h'] at k; exact absurd k (by decide)
          · subst h; intros; rw [if_pos h']; decide
          · subst h h'; simp only [if_neg (u8_irrefl x)]; exact ih b d
          · subst h; intro _ k; rw [if_neg (u8_asymm h'), if_pos h'] at k; exact absurd k (by decide)
          all_goals (intro k; rw [if_neg (u8_asymm h), if_pos h] at k; exact absurd k (by decide))

/-- cmp.Or -/
def orI (x y : Int) : Int := if x ≠ 0 then x else y

/-- The second is asked where the first says the same. -/
theorem Cmp.lex {α β : Type} {c : α → α → Int} {d : β → β → Int} (h : Cmp c) (k : Cmp d) : Cmp (fun (x y : α × β) => orI (c x.1 y.1) (d x.2 y.2)) where
  rng a b := by unfold orI; have := h.rng a.1 b.1; have := k.rng a.2 b.2; split <;> assumption
  anti a b := by
    unfold orI
    rw [h.anti a.1 b.1, k.anti a.2 b.2]
    split <;> split <;> omega
  eq a b := by
    unfold orI
    have h1 := h.eq a.1 b.1
    have h2 := k.eq a.2 b.2
    constructor
    · intro e
      split at e
      · exact absurd e (by omega)
      · exact Prod.ext (h1.1 (by omega)) (h2.1 e)
    · rintro rfl
      rw [if_neg (by simp [h.self]), k.self]
  trans a b e := by
    unfold orI
    intro p q
    by_cases h1 : c a.1 b.1 = 0
    · have e1 := (h.eq _ _).1 h1
      rw [if_neg (by simp [h1])] at p
      by_cases h2 : c b.1 e.1 = 0
      · rw [if_neg (by simp [h2])] at q
        rw [e1, if_neg (by simp [h2])]
        exact k.trans _ _ _ p q
      · rw [if_pos (by simpa using h2)] at q
        rw [e1, if_pos (by simpa using h2)]; exact q
    · rw [if_pos (by simpa using h1)] at p
      by_cases h2 : c b.1 e.1 = 0
      · rw [← (h.eq _ _).1 h2, if_pos (by simpa using h1)]; exact p
      · rw [if_pos (by simpa using h2)] at q
        have := h.trans _ _ _ p q
        rw [if_pos (by omega)]; exact this

/-- Through a one-to-one function. -/
theorem Cmp.of_inj {α β : Type} {d : β → β → Int} (k : Cmp d) (f : α → β) (hf : ∀ a b, f a = f b → a = b) : Cmp (fun x y => d (f x) (f y)) where
  rng a b := k.rng _ _
  anti a b := k.anti _ _
  eq a b := ⟨fun e => hf _ _ ((k.eq _ _).1 e), fun e => by rw [e]; exact k.self _⟩
  trans a b e := k.trans _ _ _

/-- slices.CompareFunc -/
def cmpList {α : Type} (c : α → α → Int) : List α → List α → Int
  | [], [] => 0
  | [], _ :: _ => -1
  | _ :: _, [] => 1
  | a :: as, b :: bs => if c a b ≠ 0 then c a b else cmpList c as bs

theorem Cmp.list {α : Type} {c : α → α → Int} (h : Cmp c) : Cmp (cmpList c) where
  rng a := by
    induction a with
    | nil => intro b; cases b <;> simp [cmpList]
    | cons x a ih =>
      intro b
      cases b with
      | nil => simp [cmpList]
      | cons y b => unfold cmpList; split; · exact h.rng x y
                    · exact ih b
  anti a := by
    induction a with
    | nil => intro b; cases b <;> simp [cmpList]
    | cons x a ih =>
      intro b
      cases b with
      | nil => simp [cmpList]
      | cons y b =>
        unfold cmpList
        rw [h.anti x y, ih b]
        split <;> split <;> omega
  eq a := by
    induction a with
    | nil => intro b; cases b <;> simp [cmpList]
    | cons x a ih =>
      intro b
      cases b with
      | nil => simp [cmpList]
      | cons y b =>
        unfold cmpList
        by_cases e : c x y = 0
        · rw [if_neg (by simp [e]), ih b, (h.eq x y).1 e]; simp
        · rw [if_pos (by simpa using e)]
          constructor
          · intro e'; exact absurd e' e
          · intro e'; injection e' with e1 _; exact absurd ((h.eq x y).2 e1) e
  trans a := by
    induction a with
    | nil => intro b d; cases b <;> cases d <;> simp [cmpList]
    | cons x a ih =>
      intro b d
      cases b with
      | nil => simp [cmpList]
      | cons y b =>
        cases d with
        | nil => simp [cmpList]
        | cons z d =>
          unfold cmpList
          intro p q
          by_cases h1 : c x y = 0
          · have e1 := (h.eq _ _).1 h1
            rw [if_neg (by simp [h1])] at p
            by_cases h2 : c y z = 0
            · rw [if_neg (by simp [h2])] at q
              rw [e1, if_neg (by simp [h2])]
              exact ih b d p q
            · rw [if_pos (by simpa using h2)] at q
              rw [e1, if_pos (by simpa using h2)]; exact q
          · rw [if_pos (by simpa using h1)] at p
            by_cases h2 : c y z = 0
            · rw [← (h.eq _ _).1 h2, if_pos (by simpa using h1)]; exact p
            · rw [if_pos (by simpa using h2)] at q
              have := h.trans _ _ _ p q
              rw [if_pos (by omega)]; exact this

end Go.Proofs.YtnomgmlfagiffaaDoor.Hs
