/- GFunc; Ord; PureA; GFv; T8; TOr0: texts of this claim, laid together. -/
import Derived.Test.YtnomgmlfagiffaaM0Or
import Derived.Below
import Derived.WalkKit
import Derived.Lib.Walk
import Derived.Deep.LoopGhost
import Derived.Shelf.Abstract
import Derived.Deep.Draws
import Derived.Lib.Bytealg
import Derived.Lib.Small
import Derived.Test.YtnomgmlfagiffaaM2Or
import Derived.Test.YtnomgmlfagiffaaM1Or
import Derived.Test.YtnomgmlfagiffaaM3Or
/- slices.IndexFunc, ContainsFunc and CompareFunc at Term, with function values that may lay memory. -/
set_option linter.unusedVariables false
set_option linter.unusedSimpArgs false
namespace Go.Proofs.Ytnomgmlfagiffaa.T
open Go.RowKit Go.Proofs.YtnomgmlfagiffaaW.PrintWords Go.Proofs.YtnomgmlfagiffaaW.PrintLast
theorem rdT {l : List Tm} {j : Nat} (h : j < l.length) : rd_T23 l (j : Int) = l[j] := by
  simp [rd_T23, List.getD_eq_getElem?_getD, List.getElem?_eq_getElem h]
def CmpB (g : Nat) (cf : Tm → Tm → Int) (w : World) : Prop := ∀ (x y : Tm) (W : World), okT x = true → okT y = true → Below w.heap.size w W → Calls Try.prog g #[.agg #[.int .i64 x.f0, .int .i64 x.f1, .string x.f2], .agg #[.int .i64 y.f0, .int .i64 y.f1, .string y.f2]] W fun e W' => e = .returned (.int .i64 (cf x y)) ∧ Below W.heap.size W W'
/-- What slices.CompareFunc answers. -/
def cmpL (cf : Tm → Tm → Int) : List Tm → List Tm → Int
  | [], [] => 0
  | [], _ :: _ => -1
  | _ :: _, [] => 1
  | x :: l, y :: m => if cf x y = 0 then cmpL cf l m else cf x y
theorem cmpL_step {cf : Tm → Tm → Int} {l m : List Tm} {i : Nat} (hl : i < l.length) (hm : i < m.length) : cmpL cf (l.drop i) (m.drop i) = if cf l[i] m[i] = 0 then cmpL cf (l.drop (i + 1)) (m.drop (i + 1)) else cf l[i] m[i] := by
  rw [List.drop_eq_getElem_cons hl, List.drop_eq_getElem_cons hm]
  rfl
set_option maxHeartbeats 8000000 in
set_option maxRecDepth 100000 in
theorem cmpF_calls (cf : Tm → Tm → Int) (g : Nat) (eg : ∀ args w, (callFunc g args).run Try.prog w = .ok (.enter g args) w) (A0 : Option Addr) (c0 : Nat) (l : List Tm) (A1 : Option Addr) (c1 : Nat) (m : List Tm) (w : World)
    (hr0 : Kd.C k23 w A0 l.length l) (hc0 : l.length ≤ c0) (hr1 : Kd.C k23 w A1 m.length m) (hc1 : m.length ≤ c1) (ol : l.all okT = true) (om : m.all okT = true) (hs : l.length ≤ 9223372036854775807) (hp : CmpB g cf w) :
    Calls Try.prog 26 #[.slice A0 l.length c0, .slice A1 m.length c1, .func (.func g) #[] #[]] w fun e w' => e = .returned (.int .i64 (cmpL cf l m)) ∧ Below w.heap.size w w' := by
  have hu23 := Try.underlying23
  have HR0 := Aside0.mk hr0
  have HC0 := Aside0.mk hc0
  have HR1 := Aside0.mk hr1
  have HC1 := Aside0.mk hc1
  have OL := Aside0.mk ol
  have OM := Aside0.mk om
  have HS := Aside0.mk hs
  have HP := Aside0.mk hp
  clear hr0 hc0 hr1 hc1 ol om hs hp
  have HB := Aside0.mk (Below.refl w.heap.size w)
  go_enter Try.func26, Try.ntmps26
  go_wp2
  go_loopg [13] l.length (fun gg s13 wr => ∃ i : Int, Aside0 (0 ≤ i ∧ i ≤ (l.length : Int) ∧ i ≤ (m.length : Int) ∧ (l.length : Int) - i ≤ (gg : Int)) ∧ s13 = .int .i64 i ∧ Aside0 (cmpL cf (l.drop i.toNat) (m.drop i.toNat) = cmpL cf l m) ∧ Aside0 (Below w.heap.size w wr))
  case atStart => exact ⟨0, ⟨by omega, by omega, by omega, by omega⟩, rfl, ⟨rfl⟩, HB⟩
  case round =>
    obtain ⟨i, HK, rfl, HA, HB1⟩ := hrel
    by_cases hlt : i < (l.length : Int)
    · have hltb : decide (i < (l.length : Int)) = true := decide_eq_true hlt
      have hpos : 0 ≤ i := HK.out.1
      have HLT := Aside0.mk (show i.toNat < l.length by omega)
      have HPOS := Aside0.mk hpos
      obtain ⟨ad, e0, h0, h1, h2⟩ := at_T23 HR0.out i hpos hlt
      cases e0
      replace h0 := (HB1.out.cell (World.block_lt_of_cell? w _ h0)).trans h0
      replace h1 := (HB1.out.cell (World.block_lt_of_cell? w _ h1)).trans h1
      replace h2 := (HB1.out.cell (World.block_lt_of_cell? w _ h2)).trans h2
      have HY := Aside0.mk (show l[i.toNat]'HLT.out = rd_T23 l i from by simp [rd_T23, List.getD_eq_getElem?_getD, List.getElem?_eq_getElem HLT.out])
      have hok : okT (rd_T23 l i) = true := by rw [← HY.out]; exact List.all_eq_true.1 OL.out _ (List.getElem_mem HLT.out)
      have HOK := Aside0.mk hok
      have hwr : wrap64 (i + 1) = i + 1 := by have := HS.out; simp only [wrap64]; omega
      have hlt' := eq_true hlt
      have hpos' := eq_true hpos
      clear hok hlt
      by_cases hm : (m.length : Int) ≤ i
      · have hmb : decide ((m.length : Int) ≤ i) = true := decide_eq_true hm
        have HM := Aside0.mk hm
        clear hpos
        go_wp2
        go_ret
        refine ⟨?_, by first | exact HB1.out | exact below_alloc HB1.out _⟩
        rw [← HA.out, List.drop_eq_getElem_cons HLT.out, show m.drop i.toNat = [] from List.drop_of_length_le (by have := HM.out; have := HPOS.out; omega)]
        rfl
      · have hmb : decide ((m.length : Int) ≤ i) = false := decide_eq_false hm
        have hmlt : i < (m.length : Int) := by omega
        have HMT := Aside0.mk (show i.toNat < m.length by omega)
        obtain ⟨ad1, e1, g0, g1, g2⟩ := at_T23 HR1.out i hpos hmlt
        cases e1
        replace g0 := fun o => ((below_alloc HB1.out o).cell (World.block_lt_of_cell? w _ g0)).trans g0
        replace g1 := fun o => ((below_alloc HB1.out o).cell (World.block_lt_of_cell? w _ g1)).trans g1
        replace g2 := fun o => ((below_alloc HB1.out o).cell (World.block_lt_of_cell? w _ g2)).trans g2
        have HZ := Aside0.mk (show m[i.toNat]'HMT.out = rd_T23 m i from by simp [rd_T23, List.getD_eq_getElem?_getD, List.getElem?_eq_getElem HMT.out])
        have hok1 : okT (rd_T23 m i) = true := by rw [← HZ.out]; exact List.all_eq_true.1 OM.out _ (List.getElem_mem HMT.out)
        have HCALL := Aside0.mk (fun W (hb : Below w.heap.size w W) => HP.out (rd_T23 l i) (rd_T23 m i) W HOK.out hok1 hb)
        have hst := cmpL_step (cf := cf) HLT.out HMT.out
        rw [HA.out, HY.out, HZ.out] at hst
        have HST := Aside0.mk hst
        have hmlt' := eq_true hmlt
        clear hok1 hst hm hmlt hpos
        by_cases hq : cf (rd_T23 l i) (rd_T23 m i) = 0
        · have hqb : (cf (rd_T23 l i) (rd_T23 m i) != 0) = false := by simp [hq]
          have HQ := Aside0.mk hq
          clear hq
          go_wp2_with (first | (go_at_fn g; refine (HCALL.out _ (below_alloc (below_alloc HB1.out _) _)).mono ?_; rintro e w' ⟨rfl, hb⟩; have HB2 := Aside0.mk (below_step (below_alloc (below_alloc HB1.out _) _) hb); clear hb) | go_in)
          go_roundg (l.length - (i.toNat + 1))
          case measure => have := HK.out; have := HLT.out; omega
          case rel =>
            refine ⟨i + 1, ⟨by have := HPOS.out; omega, by have := HLT.out; omega, by have := HMT.out; omega, by have := HLT.out; have := HPOS.out; omega⟩, by first | rfl | (simp [hwr]; done) | go_num, ⟨?_⟩, HB2⟩
            rw [show (i + 1).toNat = i.toNat + 1 by have := HPOS.out; omega, HST.out, if_pos HQ.out]
        · have hqb : (cf (rd_T23 l i) (rd_T23 m i) != 0) = true := by simp [hq]
          have HQ := Aside0.mk hq
          clear hq
          go_wp2_with (first | (go_at_fn g; refine (HCALL.out _ (below_alloc (below_alloc HB1.out _) _)).mono ?_; rintro e w' ⟨rfl, hb⟩; have HB2 := Aside0.mk (below_step (below_alloc (below_alloc HB1.out _) _) hb); clear hb) | go_in)
          go_ret
          refine ⟨?_, HB2.out⟩
          rw [HST.out, if_neg HQ.out]
          rfl
    · have hltb : decide (i < (l.length : Int)) = false := decide_eq_false hlt
      have HN := Aside0.mk (show i.toNat = l.length by have := HK.out; omega)
      have HI := Aside0.mk (show i = (l.length : Int) by have := HK.out; omega)
      clear hlt
      by_cases hm : (l.length : Int) < (m.length : Int)
      · have hmb : decide ((l.length : Int) < (m.length : Int)) = true := decide_eq_true hm
        have HM := Aside0.mk hm
        go_wp2
        go_ret
        refine ⟨?_, HB1.out⟩
        rw [← HA.out, HN.out, List.drop_length, List.drop_eq_getElem_cons (show l.length < m.length by have := HM.out; omega)]
        rfl
      · have hmb : decide ((l.length : Int) < (m.length : Int)) = false := decide_eq_false hm
        have HM := Aside0.mk hm
        go_wp2
        go_ret
        refine ⟨?_, HB1.out⟩
        rw [← HA.out, HN.out, List.drop_length, show m.drop l.length = [] from List.drop_of_length_le (by have := HM.out; omega)]
        rfl
end Go.Proofs.Ytnomgmlfagiffaa.T
/- Orders: plain lemmas. -/
namespace Go.Proofs.Ytnomgmlfagiffaa.Hs
open Go.Lib

/-- A comparison that is a total order: -1, 0, 1. -/
structure Cmp {α : Type} (c : α → α → Int) : Prop where
  rng : ∀ a b, c a b = -1 ∨ c a b = 0 ∨ c a b = 1
  anti : ∀ a b, c b a = - c a b
  eq : ∀ a b, c a b = 0 ↔ a = b
  trans : ∀ a b d, c a b < 0 → c b d < 0 → c a d < 0

namespace Cmp
variable {α : Type} {c : α → α → Int}
theorem self (h : Cmp c) (a : α) : c a a = 0 := (h.eq a a).2 rfl
theorem le_trans (h : Cmp c) {a b d : α} (h1 : c a b ≤ 0) (h2 : c b d ≤ 0) : c a d ≤ 0 := by
  by_cases e1 : c a b = 0
  · rw [(h.eq a b).1 e1]; exact h2
  · by_cases e2 : c b d = 0
    · rw [← (h.eq b d).1 e2]; exact h1
    · have := h.trans a b d (by omega) (by omega); omega
theorem lt_le_trans (h : Cmp c) {a b d : α} (h1 : c a b < 0) (h2 : c b d ≤ 0) : c a d < 0 := by
  by_cases e2 : c b d = 0
  · rw [← (h.eq b d).1 e2]; exact h1
  · exact h.trans a b d h1 (by omega)
end Cmp

theorem cmpInt : Cmp compareInt where
  rng a b := by unfold compareInt; split <;> (try split) <;> simp
  anti a b := by unfold compareInt; split <;> split <;> (try split) <;> omega
  eq a b := by unfold compareInt; split <;> (try split) <;> constructor <;> intro h <;> omega
  trans a b d := by unfold compareInt; split <;> split <;> (try split) <;> (try split) <;> (try split) <;> omega

theorem u8_tri (a b : UInt8) : a < b ∨ a = b ∨ b < a := by
  rcases Nat.lt_trichotomy a.toNat b.toNat with h | h | h
  · exact .inl (UInt8.lt_iff_toNat_lt.2 h)
  · exact .inr (.inl (UInt8.toNat_inj.1 h))
  · exact .inr (.inr (UInt8.lt_iff_toNat_lt.2 h))
theorem u8_asymm {a b : UInt8} (h : a < b) : ¬ b < a := by rw [UInt8.lt_iff_toNat_lt] at *; omega
theorem u8_irrefl (a : UInt8) : ¬ a < a := by rw [UInt8.lt_iff_toNat_lt]; omega
theorem u8_trans {a b d : UInt8} (h : a < b) (k : b < d) : a < d := by rw [UInt8.lt_iff_toNat_lt] at *; omega

theorem cmpBytes : Cmp compareBytes where
  rng a := by
    induction a with
    | nil => intro b; cases b <;> simp [compareBytes]
    | cons x a ih =>
      intro b
      cases b with
      | nil => simp [compareBytes]
      | cons y b => unfold compareBytes; split; · simp
                    · split; · simp
                      · exact ih b
  anti a := by
    induction a with
    | nil => intro b; cases b <;> simp [compareBytes]
    | cons x a ih =>
      intro b
      cases b with
      | nil => simp [compareBytes]
      | cons y b =>
        unfold compareBytes
        rcases u8_tri x y with h | h | h
        · simp only [if_neg (u8_asymm h), if_pos h]; decide
        · subst h; simp only [if_neg (u8_irrefl x)]; exact ih b
        · simp only [if_pos h, if_neg (u8_asymm h)]
  eq a := by
    induction a with
    | nil => intro b; cases b <;> simp [compareBytes]
    | cons x a ih =>
      intro b
      cases b with
      | nil => simp [compareBytes]
      | cons y b =>
        unfold compareBytes
        rcases u8_tri x y with h | h | h
        · rw [if_pos h]; simp; intro e; subst e; exact absurd h (u8_irrefl x)
        · subst h; rw [if_neg (u8_irrefl x), if_neg (u8_irrefl x)]; simp [ih b]
        · rw [if_neg (u8_asymm h), if_pos h]; simp; intro e; subst e; exact absurd h (u8_irrefl x)
  trans a := by
    induction a with
    | nil => intro b d; cases b <;> cases d <;> simp [compareBytes]
    | cons x a ih =>
      intro b d
      cases b with
      | nil => simp [compareBytes]
      | cons y b =>
        cases d with
        | nil => simp [compareBytes]
        | cons z d =>
          unfold compareBytes
          rcases u8_tri x y with h | h | h <;> rcases u8_tri y z with h' | h' | h'
          · intros; rw [if_pos (u8_trans h h')]; decide
          · subst h'; intros; rw [if_pos h]; decide
          · intro _ k; rw [if_neg (u8_asymm h'), if_pos h'] at k; exact absurd k (by decide)
          · subst h; intros; rw [if_pos h']; decide
          · subst h h'; simp only [if_neg (u8_irrefl x)]; exact ih b d
          · subst h; intro _ k; rw [if_neg (u8_asymm h'), if_pos h'] at k; exact absurd k (by decide)
          all_goals (intro k; rw [if_neg (u8_asymm h), if_pos h] at k; exact absurd k (by decide))

/-- cmp.Or -/
def orI (x y : Int) : Int := if x ≠ 0 then x else y

/-- The second is asked where the first says the same. -/
theorem Cmp.lex {α β : Type} {c : α → α → Int} {d : β → β → Int} (h : Cmp c) (k : Cmp d) : Cmp (fun (x y : α × β) => orI (c x.1 y.1) (d x.2 y.2)) where
  rng a b := by unfold orI; have := h.rng a.1 b.1; have := k.rng a.2 b.2; split <;> assumption
  anti a b := by
    unfold orI
    rw [h.anti a.1 b.1, k.anti a.2 b.2]
    split <;> split <;> omega
  eq a b := by
    unfold orI
    have h1 := h.eq a.1 b.1
    have h2 := k.eq a.2 b.2
    constructor
    · intro e
      split at e
      · exact absurd e (by omega)
      · exact Prod.ext (h1.1 (by omega)) (h2.1 e)
    · rintro rfl
      rw [if_neg (by simp [h.self]), k.self]
  trans a b e := by
    unfold orI
    intro p q
    by_cases h1 : c a.1 b.1 = 0
    · have e1 := (h.eq _ _).1 h1
      rw [if_neg (by simp [h1])] at p
      by_cases h2 : c b.1 e.1 = 0
      · rw [if_neg (by simp [h2])] at q
        rw [e1, if_neg (by simp [h2])]
        exact k.trans _ _ _ p q
      · rw [if_pos (by simpa using h2)] at q
        rw [e1, if_pos (by simpa using h2)]; exact q
    · rw [if_pos (by simpa using h1)] at p
      by_cases h2 : c b.1 e.1 = 0
      · rw [← (h.eq _ _).1 h2, if_pos (by simpa using h1)]; exact p
      · rw [if_pos (by simpa using h2)] at q
        have := h.trans _ _ _ p q
        rw [if_pos (by omega)]; exact this

/-- Through a one-to-one function. -/
theorem Cmp.of_inj {α β : Type} {d : β → β → Int} (k : Cmp d) (f : α → β) (hf : ∀ a b, f a = f b → a = b) : Cmp (fun x y => d (f x) (f y)) where
  rng a b := k.rng _ _
  anti a b := k.anti _ _
  eq a b := ⟨fun e => hf _ _ ((k.eq _ _).1 e), fun e => by rw [e]; exact k.self _⟩
  trans a b e := k.trans _ _ _

/-- slices.CompareFunc -/
def cmpList {α : Type} (c : α → α → Int) : List α → List α → Int
  | [], [] => 0
  | [], _ :: _ => -1
  | _ :: _, [] => 1
  | a :: aa, b :: bs => if c a b ≠ 0 then c a b else cmpList c aa bs

theorem Cmp.list {α : Type} {c : α → α → Int} (h : Cmp c) : Cmp (cmpList c) where
  rng a := by
    induction a with
    | nil => intro b; cases b <;> simp [cmpList]
    | cons x a ih =>
      intro b
      cases b with
      | nil => simp [cmpList]
      | cons y b => unfold cmpList; split; · exact h.rng x y
                    · exact ih b
  anti a := by
    induction a with
    | nil => intro b; cases b <;> simp [cmpList]
    | cons x a ih =>
      intro b
      cases b with
      | nil => simp [cmpList]
      | cons y b =>
        unfold cmpList
        rw [h.anti x y, ih b]
        split <;> split <;> omega
  eq a := by
    induction a with
    | nil => intro b; cases b <;> simp [cmpList]
    | cons x a ih =>
      intro b
      cases b with
      | nil => simp [cmpList]
      | cons y b =>
        unfold cmpList
        by_cases e : c x y = 0
        · rw [if_neg (by simp [e]), ih b, (h.eq x y).1 e]; simp
        · rw [if_pos (by simpa using e)]
          constructor
          · intro e'; exact absurd e' e
          · intro e'; injection e' with e1 _; exact absurd ((h.eq x y).2 e1) e
  trans a := by
    induction a with
    | nil => intro b d; cases b <;> cases d <;> simp [cmpList]
    | cons x a ih =>
      intro b d
      cases b with
      | nil => simp [cmpList]
      | cons y b =>
        cases d with
        | nil => simp [cmpList]
        | cons z d =>
          unfold cmpList
          intro p q
          by_cases h1 : c x y = 0
          · have e1 := (h.eq _ _).1 h1
            rw [if_neg (by simp [h1])] at p
            by_cases h2 : c y z = 0
            · rw [if_neg (by simp [h2])] at q
              rw [e1, if_neg (by simp [h2])]
              exact ih b d p q
            · rw [if_pos (by simpa using h2)] at q
              rw [e1, if_pos (by simpa using h2)]; exact q
          · rw [if_pos (by simpa using h1)] at p
            by_cases h2 : c y z = 0
            · rw [← (h.eq _ _).1 h2, if_pos (by simpa using h1)]; exact p
            · rw [if_pos (by simpa using h2)] at q
              have := h.trans _ _ _ p q
              rw [if_pos (by omega)]; exact this

end Go.Proofs.Ytnomgmlfagiffaa.Hs
/- What the printed functions of package term answer, in closed form. -/
set_option linter.unusedVariables false
set_option linter.unusedSimpArgs false
namespace Go.Proofs.Ytnomgmlfagiffaa.T
open Go.RowKit Go.Lib Go.Proofs.YtnomgmlfagiffaaW.PrintWords Go.Proofs.Ytnomgmlfagiffaa.Hs
def isConst (t : Tm) : Bool := (decide (t.f0 = 1) && (t.f2.toList == ([] : List UInt8))) || (decide (t.f0 = 2) && (decide (t.f1 = 0) && decide ((t.f2.size : Int) ≤ 64)))
theorem orI_f (a b c : Int) (k : Nat) : cmp_Or_int.f (k + 4) [a, b, c] = some (orI a (orI b c)) := by
  unfold cmp_Or_int.f orI
  by_cases ha : a = 0
  · by_cases hb : b = 0
    · by_cases hc : c = 0
      · simp [cmp_Or_int.l0, rd, wrap64, ha, hb, hc]
      · simp [cmp_Or_int.l0, rd, wrap64, ha, hb, hc]
    · simp [cmp_Or_int.l0, rd, wrap64, ha, hb]
  · simp [cmp_Or_int.l0, rd, wrap64, ha]
def cmpT (a b : Tm) : Int := orI (compareInt a.f0 b.f0) (orI (compareInt a.f1 b.f1) (compareBytes a.f2.toList b.f2.toList))
theorem cmpInt_f (x y : Int) : cmp_Compare_int.f x y = some (compareInt x y) := by
  rw [cmp_f]
  unfold compareInt
  split
  · rfl
  · split
    · rfl
    · rfl
theorem cmpStr_f (x y : ByteArray) : strings_Compare.f x y = some (compareBytes x.toList y.toList) := by
  unfold strings_Compare.f bytealg_CompareString.f
  simp [toList_data]
theorem cmpT_f (a b : Tm) (k : Nat) : term_Compare.f (k + 4) a.f0 a.f1 a.f2 b.f0 b.f1 b.f2 = some (cmpT a b) := by
  unfold term_Compare.f cmpT
  rw [cmpInt_f, cmpInt_f, cmpStr_f]
  simp only [Option.bind_some]
  rw [orI_f]
  rfl
theorem ba_ext {a b : ByteArray} (h : a.toList = b.toList) : a = b := by
  rw [toList_data, toList_data] at h
  exact WideShapes.bytes_inj h
theorem cmpTm : Cmp cmpT := by
  have h := Cmp.of_inj (Cmp.lex cmpInt (Cmp.lex cmpInt cmpBytes)) (fun t : Tm => (t.f0, t.f1, t.f2.toList)) (fun a b e => by
    simp only [Prod.mk.injEq] at e
    obtain ⟨h0, h1, h2⟩ := e
    cases a; cases b
    simp only at h0 h1 h2
    subst h0 h1
    rw [ba_ext h2])
  exact h
theorem eqT_iff (a b : Tm) : eqT a b = true ↔ a = b := by
  unfold eqT
  simp only [Bool.and_eq_true, beq_iff_eq]
  constructor
  · rintro ⟨h0, h1, h2⟩
    cases a; cases b
    simp only at h0 h1 h2
    subst h0 h1
    rw [ba_ext h2]
  · rintro rfl
    exact ⟨rfl, rfl, rfl⟩
end Go.Proofs.Ytnomgmlfagiffaa.T
/- Calls of slices.ContainsFunc and CompareFunc with package term's own functions. -/
set_option linter.unusedVariables false
set_option linter.unusedSimpArgs false
namespace Go.Proofs.Ytnomgmlfagiffaa.T
open Go.RowKit Go.Proofs.YtnomgmlfagiffaaW.PrintWords Go.Proofs.YtnomgmlfagiffaaW.PrintLast
def badT (t : Tm) : Bool := !isConst t && !isVar t
def slices_ContainsFunc_bad.f (l : List Tm) : Option Bool := if (l.all okT && decide (l.length < smallN)) = true then some (l.any badT) else none
def slices_ContainsFunc_var.f (l : List Tm) : Option Bool := if (l.all okT && decide (l.length < smallN)) = true then some (l.any isVar) else none
def slices_CompareFunc_term.f (l m : List Tm) : Option Int := if (l.all okT && (m.all okT && decide (l.length ≤ 9223372036854775807))) = true then some (cmpL cmpT l m) else none
theorem slices_CompareFunc_term.calls (A0 : Option Addr) (c0 : Nat) (l0 : List Tm) (A1 : Option Addr) (c1 : Nat) (l1 : List Tm) (r : Int) (w : World) (hr0 : Kd.C k23 w A0 l0.length l0) (hc0 : l0.length ≤ c0) (hr1 : Kd.C k23 w A1 l1.length l1) (hc1 : l1.length ≤ c1) (h : slices_CompareFunc_term.f l0 l1 = some r) :
    Calls Try.prog 26 #[.slice A0 l0.length c0, .slice A1 l1.length c1, .func (.func 12) #[] #[]] w fun e w' => e = .returned (.int .i64 r) ∧ Below w.heap.size w w' := by
  unfold slices_CompareFunc_term.f at h
  by_cases hc : (l0.all okT && (l1.all okT && decide (l0.length ≤ 9223372036854775807))) = true
  · rw [if_pos hc] at h
    obtain rfl := Option.some.inj h
    simp only [Bool.and_eq_true, decide_eq_true_eq] at hc
    exact cmpF_calls cmpT 12 (enters_of Try.func12 (by kernel_rfl) rfl) A0 c0 l0 A1 c1 l1 w hr0 hc0 hr1 hc1 hc.1 hc.2.1 hc.2.2 (fun x y W _ _ _ => term_Compare.calls 4 x.f0 x.f1 x.f2 y.f0 y.f1 y.f2 (cmpT x y) W (cmpT_f x y 0))
  · rw [if_neg hc] at h; cases h
end Go.Proofs.Ytnomgmlfagiffaa.T
-- By a program of this session (wip/tools/myprint.py), out of the translation.
namespace Go.Proofs.Ytnomgmlfagiffaa.T
open Go.RowKit Go.Proofs.YtnomgmlfagiffaaW.PrintWords Go.Proofs.YtnomgmlfagiffaaW.PrintLast Go.Proofs.YtnomgmlfagiffaaW.PrintMore
attribute [local go_sem] max2_int min2_int max_two min_two max_three min_three max_four min_four   -- for this text's walks alone
set_option linter.unusedVariables false
set_option linter.unusedSimpArgs false

-- NOT PRINTED: function 26 (api_Term)

def term_CompareAtoms.f (k : Nat) (a0_0 : Int) (a0_1 : Int) (a0_2 : ByteArray) (a0_3 : ByteArray) (l0_4 : List (S23)) (a1_0 : Int) (a1_1 : Int) (a1_2 : ByteArray) (a1_3 : ByteArray) (l1_4 : List (S23)) : Option (Int) := (strings_Compare.f a0_3 a1_3).bind fun t164 => ((cmp_Compare_int.f (l0_4.length : Int) (l1_4.length : Int)).bind fun t165 => ((term_Compare.f k a0_0 a0_1 a0_2 a1_0 a1_1 a1_2).bind fun t166 => ((cmp_Or_int.f k (([t164, t165, t166] : List Int))).bind fun t170 => (if t170 = 0 then ((slices_CompareFunc_term.f l0_4 l1_4).bind fun t171 => (some t171)) else (some t170)))))
theorem term_CompareAtoms.mono : ∀ a0 a1 a2 a3 a4 a5 a6 a7 a8 a9 k, LeO (term_CompareAtoms.f k a0 a1 a2 a3 a4 a5 a6 a7 a8 a9) (term_CompareAtoms.f (k + 1) a0 a1 a2 a3 a4 a5 a6 a7 a8 a9) := by
  intro a0 a1 a2 a3 a4 a5 a6 a7 a8 a9 k
  unfold term_CompareAtoms.f
  repeat' first
      | (with_reducible exact cmp_Or_int.mono _ _)
      | (with_reducible exact term_Compare.mono _ _ _ _ _ _ _)
      | (with_reducible exact LeO.refl _)
      | (with_reducible exact LeO.none _)
      | (with_reducible refine LeO.ite ?_ ?_)
      | (with_reducible refine LeO.bind ?_ (fun _ => ?_))
      | exact cmp_Or_int.mono _ _
      | exact term_Compare.mono _ _ _ _ _ _ _
      | exact LeO.none _
      | refine LeO.ite ?_ ?_
      | refine LeO.bind ?_ (fun _ => ?_)
def term_CompareAtoms.T1 : Bool × List (List Nat × List Nat) := (true, [([], []), ([0], [0]), ([], []), ([2], [2]), ([1, 3], [1, 3]), ([], []), ([5], [5]), ([6], [6]), ([], []), ([8], [8]), ([9], [9]), ([7, 10, 4], [7, 10]), ([], []), ([12], [12]), ([], []), ([14], [14]), ([13, 15, 11], [13, 15]), ([4, 11, 16], [4, 11, 16]), ([17, 16], [17]), ([18, 18, 0, 1, 2, 3, 4, 5, 6, 7, 8, 9, 10, 11, 12, 13, 14, 15, 16, 17, 18], [18])])
def term_CompareAtoms.B1 : List Nat := [0, 1, 0, 4, 15, 0, 32, 96, 0, 256, 768, 2047, 0, 4096, 0, 16384, 65535, 131071, 262143, 524287]
theorem term_CompareAtoms.tab1 : rtab .any (opsOf Try.f15 1) = term_CompareAtoms.T1 := by kernel_rfl
theorem term_CompareAtoms.bits1 : waitsOk term_CompareAtoms.T1.2 term_CompareAtoms.B1 = true := by kernel_rfl
set_option maxHeartbeats 8000000 in
set_option maxRecDepth 100000 in
theorem term_CompareAtoms.calls (k : Nat) (a0_0 : Int) (a0_1 : Int) (a0_2 : ByteArray) (a0_3 : ByteArray) (A0_4 : Option Addr) (c0_4 : Nat) (l0_4 : List (S23)) (a1_0 : Int) (a1_1 : Int) (a1_2 : ByteArray) (a1_3 : ByteArray) (A1_4 : Option Addr) (c1_4 : Nat) (l1_4 : List (S23)) (r : Int) (w : World) (hr0_4 : Kd.C k23 w A0_4 l0_4.length l0_4) (hc0_4 : l0_4.length ≤ c0_4) (hr1_4 : Kd.C k23 w A1_4 l1_4.length l1_4) (hc1_4 : l1_4.length ≤ c1_4) (h : term_CompareAtoms.f k a0_0 a0_1 a0_2 a0_3 l0_4 a1_0 a1_1 a1_2 a1_3 l1_4 = some r) :
    Calls Try.prog 15 #[.agg #[.int .i64 a0_0, .int .i64 a0_1, .string a0_2, .string a0_3, .slice A0_4 l0_4.length c0_4], .agg #[.int .i64 a1_0, .int .i64 a1_1, .string a1_2, .string a1_3, .slice A1_4 l1_4.length c1_4]] w fun e w' => e = .returned (.int .i64 r) ∧ Below w.heap.size w w' := by
  have hu30 := Try.underlying30
  have hu23 := Try.underlying23
  have HR0_4 := Aside0.mk hr0_4
  have HC0_4 := Aside0.mk hc0_4
  clear hr0_4 hc0_4
  have HR1_4 := Aside0.mk hr1_4
  have HC1_4 := Aside0.mk hc1_4
  clear hr1_4 hc1_4
  have HB := Aside0.mk (Below.refl w.heap.size w)
  have H : ((strings_Compare.f a0_3 a1_3).bind fun t164 => ((cmp_Compare_int.f (l0_4.length : Int) (l1_4.length : Int)).bind fun t165 => ((term_Compare.f k a0_0 a0_1 a0_2 a1_0 a1_1 a1_2).bind fun t166 => ((cmp_Or_int.f k (([t164, t165, t166] : List Int))).bind fun t170 => (if t170 = 0 then ((slices_CompareFunc_term.f l0_4 l1_4).bind fun t171 => (some t171)) else (some t170)))))) = some r := h
  clear h
  replace H := Option.bind_eq_some_iff.mp H
  obtain ⟨t164, A30, H⟩ := H
  replace H : ((cmp_Compare_int.f (l0_4.length : Int) (l1_4.length : Int)).bind fun t165 => ((term_Compare.f k a0_0 a0_1 a0_2 a1_0 a1_1 a1_2).bind fun t166 => ((cmp_Or_int.f k (([t164, t165, t166] : List Int))).bind fun t170 => (if t170 = 0 then ((slices_CompareFunc_term.f l0_4 l1_4).bind fun t171 => (some t171)) else (some t170))))) = some r := H
  have A3 := Aside0.mk A30
  clear A30
  replace H := Option.bind_eq_some_iff.mp H
  obtain ⟨t165, A40, H⟩ := H
  replace H : ((term_Compare.f k a0_0 a0_1 a0_2 a1_0 a1_1 a1_2).bind fun t166 => ((cmp_Or_int.f k (([t164, t165, t166] : List Int))).bind fun t170 => (if t170 = 0 then ((slices_CompareFunc_term.f l0_4 l1_4).bind fun t171 => (some t171)) else (some t170)))) = some r := H
  have A4 := Aside0.mk A40
  clear A40
  replace H := Option.bind_eq_some_iff.mp H
  obtain ⟨t166, A50, H⟩ := H
  replace H : ((cmp_Or_int.f k (([t164, t165, t166] : List Int))).bind fun t170 => (if t170 = 0 then ((slices_CompareFunc_term.f l0_4 l1_4).bind fun t171 => (some t171)) else (some t170))) = some r := H
  have A5 := Aside0.mk A50
  clear A50
  obtain ⟨y167, hy167⟩ : ∃ y_ : List Int, y_ = (([t164, t165, t166] : List Int)) := ⟨_, rfl⟩
  replace H : ((cmp_Or_int.f k y167).bind fun t170 => (if t170 = 0 then ((slices_CompareFunc_term.f l0_4 l1_4).bind fun t171 => (some t171)) else (some t170))) = some r := by first | (rw [hy167]; with_reducible exact H) | (have H2_ := (Option.bind_some _ _).symm.trans H; rw [hy167]; with_reducible exact H2_) | (have H2_ := (Option.bind_some _ _).symm.trans H; with_reducible exact H2_) | with_reducible exact H | (rw [hy167]; exact H) | exact H
  have Ny167 := Aside0.mk hy167
  clear hy167
  replace H := Option.bind_eq_some_iff.mp H
  obtain ⟨t170, A60, H⟩ := H
  replace H : (if t170 = 0 then ((slices_CompareFunc_term.f l0_4 l1_4).bind fun t171 => (some t171)) else (some t170)) = some r := H
  have A6 := Aside0.mk A60
  clear A60
  by_cases c7 : t170 = 0
  · rw [if_pos c7] at H
    have c7b0 : (t170 == 0) = true := beq_iff_eq.mpr c7
    have c7b1 : (t170 != 0) = false := bne_eq_false_iff_eq.mpr c7
    clear c7
    replace H := Option.bind_eq_some_iff.mp H
    obtain ⟨t171, A80, H⟩ := H
    replace H : (some t171) = some r := H
    have A8 := Aside0.mk A80
    clear A80
    obtain rfl := Option.some.inj H
    go_enter Try.func15, Try.ntmps15
    try go_wp2_with (first | ((with_reducible refine gate_dst (N := 2) rfl ?_); refine box_event ?hg (N := 2) ?hd (cs := #[.int .i64 a0_0, .int .i64 a0_1, .string a0_2, .string a0_3, .slice A0_4 l0_4.length c0_4]) (t := 30) ?hr ?_; (case hd => rfl); (case hg => rfl); (case hr => first | (go_simp; done) | (go_simp; rfl)); intro gb162 hg w9 hbox hb; have n0_ := Aside0.mk (below_step (by repeat (first | (with_reducible first | exact HB.out | apply below_alloc | apply pw_below_drewN | apply below_drew1) | exact HB.out)) hb); have n1_ := Aside0.mk (hbox); have n2_ := Aside0.mk ((by rw [hg]; exact (below_size (by repeat (first | (with_reducible first | exact HB.out | apply below_alloc | apply pw_below_drewN | apply below_drew1) | exact HB.out))) : w.heap.size ≤ gb162)); have n3_ := Aside0.mk ((by rw [hg]; exact (below_size (by repeat (first | (with_reducible first | exact HB.out | apply below_alloc | apply pw_below_drewN | apply below_drew1) | exact HB.out))) : w.heap.size ≤ gb162)); clear HB; have HB := n0_; have BK162 := n1_; have GW162 := n2_; have GE162 := n3_; clear n0_ n1_ n2_ n3_; clear hb hbox hg) | ((with_reducible refine gate_dst (N := 3) rfl ?_); refine box_event ?hg (N := 3) ?hd (cs := #[.int .i64 a1_0, .int .i64 a1_1, .string a1_2, .string a1_3, .slice A1_4 l1_4.length c1_4]) (t := 30) ?hr ?_; (case hd => rfl); (case hg => rfl); (case hr => first | (go_simp; done) | (go_simp; rfl)); intro gb163 hg w10 hbox hb; have n0_ := Aside0.mk (blk_below (g := gb162) (o := .cells #[.int .i64 a0_0, .int .i64 a0_1, .string a0_2, .string a0_3, .slice A0_4 l0_4.length c0_4] 30 (0, 0)) (by (with_reducible repeat (first | refine blk_drewN ?_ _ | refine blk_drew ?_ | refine blk_alloc ?_ _)); exact BK162.out) hb); have n1_ := Aside0.mk (below_step (by repeat (first | (with_reducible first | exact HB.out | apply below_alloc | apply pw_below_drewN | apply below_drew1 | refine below_set ?_ GE162.out) | exact HB.out)) hb); have n2_ := Aside0.mk (hbox); have n3_ := Aside0.mk ((by rw [hg]; exact (below_size (by repeat (first | (with_reducible first | exact HB.out | apply below_alloc | apply pw_below_drewN | apply below_drew1 | refine below_set ?_ GE162.out) | exact HB.out))) : w.heap.size ≤ gb163)); have n4_ := Aside0.mk ((by rw [hg]; exact (below_size (by repeat (first | (with_reducible first | exact HB.out | apply below_alloc | apply pw_below_drewN | apply below_drew1 | refine below_set ?_ GE162.out) | exact HB.out))) : w.heap.size ≤ gb163)); have n5_ := Aside0.mk ((by rw [hg]; exact Nat.ne_of_lt (blk_lt (g := gb162) (o := .cells #[.int .i64 a0_0, .int .i64 a0_1, .string a0_2, .string a0_3, .slice A0_4 l0_4.length c0_4] 30 (0, 0)) (by (with_reducible repeat (first | refine blk_drewN ?_ _ | refine blk_drew ?_ | refine blk_alloc ?_ _)); exact BK162.out)) : gb162 ≠ gb163)); have n6_ := Aside0.mk ((by rw [hg]; exact Nat.ne_of_gt (blk_lt (g := gb162) (o := .cells #[.int .i64 a0_0, .int .i64 a0_1, .string a0_2, .string a0_3, .slice A0_4 l0_4.length c0_4] 30 (0, 0)) (by (with_reducible repeat (first | refine blk_drewN ?_ _ | refine blk_drew ?_ | refine blk_alloc ?_ _)); exact BK162.out)) : gb163 ≠ gb162)); clear BK162; clear HB; have BK162 := n0_; have HB := n1_; have BK163 := n2_; have GW163 := n3_; have GE163 := n4_; have NB162_163 := n5_; have NB163_162 := n6_; clear n0_ n1_ n2_ n3_ n4_ n5_ n6_; clear hb hbox hg))
    have n0_ := Aside0.mk (blk_drew BK162.out)
    have n1_ := Aside0.mk (blk_drew BK163.out)
    have n2_ := Aside0.mk (below_drew1 HB.out)
    clear BK162
    clear BK163
    clear HB
    have BK162 := n0_
    have BK163 := n1_
    have HB := n2_
    clear n0_ n1_ n2_
    refine start_ (n := 20) (S := fun w' => w'.cell? ⟨gb162, 0, none⟩ = some (.int .i64 a0_0) ∧ w'.cell? ⟨gb162, 1, none⟩ = some (.int .i64 a0_1) ∧ w'.cell? ⟨gb162, 2, none⟩ = some (.string a0_2) ∧ w'.cell? ⟨gb162, 3, none⟩ = some (.string a0_3) ∧ w'.cell? ⟨gb162, 4, none⟩ = some (.slice A0_4 l0_4.length c0_4) ∧ w'.cell? ⟨gb163, 0, none⟩ = some (.int .i64 a1_0) ∧ w'.cell? ⟨gb163, 1, none⟩ = some (.int .i64 a1_1) ∧ w'.cell? ⟨gb163, 2, none⟩ = some (.string a1_2) ∧ w'.cell? ⟨gb163, 3, none⟩ = some (.string a1_3) ∧ w'.cell? ⟨gb163, 4, none⟩ = some (.slice A1_4 l1_4.length c1_4)) (ds := []) #[false, false, false, false, false, false, false, false, false, false, false, false, false, false, false, false, false, false, false, false] (by kernel_rfl) rfl rfl ⟨(blk_cell BK162.out 0).trans rfl, (blk_cell BK162.out 1).trans rfl, (blk_cell BK162.out 2).trans rfl, (blk_cell BK162.out 3).trans rfl, (blk_cell BK162.out 4).trans rfl, (blk_cell BK163.out 0).trans rfl, (blk_cell BK163.out 1).trans rfl, (blk_cell BK163.out 2).trans rfl, (blk_cell BK163.out 3).trans rfl, (blk_cell BK163.out 4).trans rfl⟩ (fun hHeld => ?_); refine with_tabW term_CompareAtoms.tab1 term_CompareAtoms.bits1 (fun HT_ HW_ => ?_)
    generalize w10.drew = w11 at BK162 BK163 HB hHeld ⊢
    refine pure_ (i := 0) (N := some 6) (v := ?_) (a' := ?_) #[true, false, false, false, false, false, false, false, false, false, false, false, false, false, false, false, false, false, false, false] rfl rfl (any_of HT_.out (by kernel_rfl)) (fun _ _ _ h => h) (Or.inl ⟨by rfl, ?_⟩) ?_ ?_
    rotate_left
    · intro w'
      go_simp
      with_reducible rfl
    rotate_left
    · simp only [Act.put, List.setIfInBounds_toArray, List.set_cons_zero, List.set_cons_succ, i64_w, i32_w]
      rfl
    refine pure_ (i := 2) (N := some 8) (v := ?_) (a' := ?_) #[true, false, true, false, false, false, false, false, false, false, false, false, false, false, false, false, false, false, false, false] rfl rfl (any_of HT_.out (by kernel_rfl)) (fun _ _ _ h => h) (Or.inl ⟨by rfl, ?_⟩) ?_ ?_
    rotate_left
    · intro w'
      go_simp
      with_reducible rfl
    rotate_left
    · simp only [Act.put, List.setIfInBounds_toArray, List.set_cons_zero, List.set_cons_succ, i64_w, i32_w]
      rfl
    refine pure_ (i := 5) (N := some 11) (v := ?_) (a' := ?_) #[true, false, true, false, false, true, false, false, false, false, false, false, false, false, false, false, false, false, false, false] rfl rfl (any_of HT_.out (by kernel_rfl)) (fun _ _ _ h => h) (Or.inl ⟨by rfl, ?_⟩) ?_ ?_
    rotate_left
    · intro w'
      go_simp
      with_reducible rfl
    rotate_left
    · simp only [Act.put, List.setIfInBounds_toArray, List.set_cons_zero, List.set_cons_succ, i64_w, i32_w]
      rfl
    refine pure_ (i := 8) (N := some 14) (v := ?_) (a' := ?_) #[true, false, true, false, false, true, false, false, true, false, false, false, false, false, false, false, false, false, false, false] rfl rfl (any_of HT_.out (by kernel_rfl)) (fun _ _ _ h => h) (Or.inl ⟨by rfl, ?_⟩) ?_ ?_
    rotate_left
    · intro w'
      go_simp
      with_reducible rfl
    rotate_left
    · simp only [Act.put, List.setIfInBounds_toArray, List.set_cons_zero, List.set_cons_succ, i64_w, i32_w]
      rfl
    refine pure_ (i := 12) (N := some 18) (v := ?_) (a' := ?_) #[true, false, true, false, false, true, false, false, true, false, false, false, true, false, false, false, false, false, false, false] rfl rfl (any_of HT_.out (by kernel_rfl)) (fun _ _ _ h => h) (Or.inl ⟨by rfl, ?_⟩) ?_ ?_
    rotate_left
    · intro w'
      go_simp
      with_reducible rfl
    rotate_left
    · simp only [Act.put, List.setIfInBounds_toArray, List.set_cons_zero, List.set_cons_succ, i64_w, i32_w]
      rfl
    refine pure_ (i := 14) (N := some 20) (v := ?_) (a' := ?_) #[true, false, true, false, false, true, false, false, true, false, false, false, true, false, true, false, false, false, false, false] rfl rfl (any_of HT_.out (by kernel_rfl)) (fun _ _ _ h => h) (Or.inl ⟨by rfl, ?_⟩) ?_ ?_
    rotate_left
    · intro w'
      go_simp
      with_reducible rfl
    rotate_left
    · simp only [Act.put, List.setIfInBounds_toArray, List.set_cons_zero, List.set_cons_succ, i64_w, i32_w]
      rfl
    refine take_ (i := 1) (N := some 7) (v := ?_) (a' := ?_) #[true, true, true, false, false, true, false, false, true, false, false, false, true, false, true, false, false, false, false, false] rfl rfl (take_ofW HT_.out HW_.out (by kernel_rfl)) (fun _ _ _ h => h) (Or.inl ⟨by rfl, ?_⟩) hHeld ?_ ?_
    rotate_left
    · rintro w' ⟨s0, s1, s2, s3, s4, s5, s6, s7, s8, s9⟩
      go_simp
      with_reducible rfl
    rotate_left
    · simp only [Act.put, List.setIfInBounds_toArray, List.set_cons_zero, List.set_cons_succ, i64_w, i32_w]
      rfl
    refine take_ (i := 3) (N := some 9) (v := ?_) (a' := ?_) #[true, true, true, true, false, true, false, false, true, false, false, false, true, false, true, false, false, false, false, false] rfl rfl (take_ofW HT_.out HW_.out (by kernel_rfl)) (fun _ _ _ h => h) (Or.inl ⟨by rfl, ?_⟩) hHeld ?_ ?_
    rotate_left
    · rintro w' ⟨s0, s1, s2, s3, s4, s5, s6, s7, s8, s9⟩
      go_simp
      with_reducible rfl
    rotate_left
    · simp only [Act.put, List.setIfInBounds_toArray, List.set_cons_zero, List.set_cons_succ, i64_w, i32_w]
      rfl
    refine take_ (i := 6) (N := some 12) (v := ?_) (a' := ?_) #[true, true, true, true, false, true, true, false, true, false, false, false, true, false, true, false, false, false, false, false] rfl rfl (take_ofW HT_.out HW_.out (by kernel_rfl)) (fun _ _ _ h => h) (Or.inl ⟨by rfl, ?_⟩) hHeld ?_ ?_
    rotate_left
    · rintro w' ⟨s0, s1, s2, s3, s4, s5, s6, s7, s8, s9⟩
      go_simp
      with_reducible rfl
    rotate_left
    · simp only [Act.put, List.setIfInBounds_toArray, List.set_cons_zero, List.set_cons_succ, i64_w, i32_w]
      rfl
    refine pure_ (i := 7) (N := some 13) (v := ?_) (a' := ?_) #[true, true, true, true, false, true, true, true, true, false, false, false, true, false, true, false, false, false, false, false] rfl rfl (any_of HT_.out (by kernel_rfl)) (fun _ _ _ h => h) (Or.inl ⟨by rfl, ?_⟩) ?_ ?_
    rotate_left
    · intro w'
      go_simp
      with_reducible rfl
    rotate_left
    · simp only [Act.put, List.setIfInBounds_toArray, List.set_cons_zero, List.set_cons_succ, i64_w, i32_w]
      rfl
    refine take_ (i := 9) (N := some 15) (v := ?_) (a' := ?_) #[true, true, true, true, false, true, true, true, true, true, false, false, true, false, true, false, false, false, false, false] rfl rfl (take_ofW HT_.out HW_.out (by kernel_rfl)) (fun _ _ _ h => h) (Or.inl ⟨by rfl, ?_⟩) hHeld ?_ ?_
    rotate_left
    · rintro w' ⟨s0, s1, s2, s3, s4, s5, s6, s7, s8, s9⟩
      go_simp
      with_reducible rfl
    rotate_left
    · simp only [Act.put, List.setIfInBounds_toArray, List.set_cons_zero, List.set_cons_succ, i64_w, i32_w]
      rfl
    refine pure_ (i := 10) (N := some 16) (v := ?_) (a' := ?_) #[true, true, true, true, false, true, true, true, true, true, true, false, true, false, true, false, false, false, false, false] rfl rfl (any_of HT_.out (by kernel_rfl)) (fun _ _ _ h => h) (Or.inl ⟨by rfl, ?_⟩) ?_ ?_
    rotate_left
    · intro w'
      go_simp
      with_reducible rfl
    rotate_left
    · simp only [Act.put, List.setIfInBounds_toArray, List.set_cons_zero, List.set_cons_succ, i64_w, i32_w]
      rfl
    refine take_ (i := 13) (N := some 19) (v := ?_) (a' := ?_) #[true, true, true, true, false, true, true, true, true, true, true, false, true, true, true, false, false, false, false, false] rfl rfl (take_ofW HT_.out HW_.out (by kernel_rfl)) (fun _ _ _ h => h) (Or.inl ⟨by rfl, ?_⟩) hHeld ?_ ?_
    rotate_left
    · rintro w' ⟨s0, s1, s2, s3, s4, s5, s6, s7, s8, s9⟩
      go_simp
      with_reducible rfl
    rotate_left
    · simp only [Act.put, List.setIfInBounds_toArray, List.set_cons_zero, List.set_cons_succ, i64_w, i32_w]
      rfl
    refine take_ (i := 15) (N := some 21) (v := ?_) (a' := ?_) #[true, true, true, true, false, true, true, true, true, true, true, false, true, true, true, true, false, false, false, false] rfl rfl (take_ofW HT_.out HW_.out (by kernel_rfl)) (fun _ _ _ h => h) (Or.inl ⟨by rfl, ?_⟩) hHeld ?_ ?_
    rotate_left
    · rintro w' ⟨s0, s1, s2, s3, s4, s5, s6, s7, s8, s9⟩
      go_simp
      with_reducible rfl
    rotate_left
    · simp only [Act.put, List.setIfInBounds_toArray, List.set_cons_zero, List.set_cons_succ, i64_w, i32_w]
      rfl
    refine one_ (i := 4) (N := some 10) #[true, true, true, true, true, true, true, true, true, true, true, false, true, true, true, true, false, false, false, false] rfl rfl (one_of HT_.out (by kernel_rfl)) (by decide) (fun K hK => ?_)
    refine goes_ Try.func23 (by kernel_rfl) rfl #[.string a0_3, .string a1_3] (by rfl) rfl rfl (by (try simp only [List.map_toArray, List.map_cons, List.map_nil]); first | done | rfl | (simp only [List.length_drop, List.length_take]; rfl)) ?_
    with_reducible refine (strings_Compare.calls a0_3 a1_3 t164 _ A3.out).mono ?_
    rintro e w' ⟨rfl, ⟨nd, rfl⟩⟩
    refine ⟨_, rfl, ?_⟩
    refine hK.out _ _ ⟨(blk_cell BK162.out 0).trans rfl, (blk_cell BK162.out 1).trans rfl, (blk_cell BK162.out 2).trans rfl, (blk_cell BK162.out 3).trans rfl, (blk_cell BK162.out 4).trans rfl, (blk_cell BK163.out 0).trans rfl, (blk_cell BK163.out 1).trans rfl, (blk_cell BK163.out 2).trans rfl, (blk_cell BK163.out 3).trans rfl, (blk_cell BK163.out 4).trans rfl⟩ (fun hHeld => ?_)
    clear hK K
    refine norm_ (a' := ?_) ?_ ?_
    rotate_left
    · show Act.put _ (some 10) _ = _
      simp only [Act.put, List.setIfInBounds_toArray, List.set_cons_zero, List.set_cons_succ, i64_w, i32_w]
      rfl
    refine one_ (i := 11) (N := some 17) #[true, true, true, true, true, true, true, true, true, true, true, true, true, true, true, true, false, false, false, false] rfl rfl (one_of HT_.out (by kernel_rfl)) (by decide) (fun K hK => ?_)
    refine goes_ Try.func22 (by kernel_rfl) rfl #[.int .i64 (l0_4.length : Int), .int .i64 (l1_4.length : Int)] (by rfl) rfl rfl (by (try simp only [List.map_toArray, List.map_cons, List.map_nil]); first | done | rfl | (simp only [List.length_drop, List.length_take]; rfl)) ?_
    with_reducible refine (cmp_Compare_int.calls (l0_4.length : Int) (l1_4.length : Int) t165 _ A4.out).mono ?_
    rintro e w' ⟨rfl, ⟨nd, rfl⟩⟩
    refine ⟨_, rfl, ?_⟩
    refine hK.out _ _ ⟨(blk_cell BK162.out 0).trans rfl, (blk_cell BK162.out 1).trans rfl, (blk_cell BK162.out 2).trans rfl, (blk_cell BK162.out 3).trans rfl, (blk_cell BK162.out 4).trans rfl, (blk_cell BK163.out 0).trans rfl, (blk_cell BK163.out 1).trans rfl, (blk_cell BK163.out 2).trans rfl, (blk_cell BK163.out 3).trans rfl, (blk_cell BK163.out 4).trans rfl⟩ (fun hHeld => ?_)
    clear hK K
    refine norm_ (a' := ?_) ?_ ?_
    rotate_left
    · show Act.put _ (some 17) _ = _
      simp only [Act.put, List.setIfInBounds_toArray, List.set_cons_zero, List.set_cons_succ, i64_w, i32_w]
      rfl
    refine one_ (i := 16) (N := some 22) #[true, true, true, true, true, true, true, true, true, true, true, true, true, true, true, true, true, false, false, false] rfl rfl (one_of HT_.out (by kernel_rfl)) (by decide) (fun K hK => ?_)
    refine goes_ Try.func12 (by kernel_rfl) rfl #[.agg #[.int .i64 a0_0, .int .i64 a0_1, .string a0_2], .agg #[.int .i64 a1_0, .int .i64 a1_1, .string a1_2]] (by rfl) rfl rfl (by (try simp only [List.map_toArray, List.map_cons, List.map_nil]); first | done | rfl | (simp only [List.length_drop, List.length_take]; rfl)) ?_
    with_reducible refine (term_Compare.calls k a0_0 a0_1 a0_2 a1_0 a1_1 a1_2 t166 _ A5.out).mono ?_
    rintro e w12 ⟨rfl, hb⟩
    refine ⟨_, rfl, ?_⟩
    have n0_ := Aside0.mk (blk_below (g := gb162) (o := .cells #[.int .i64 a0_0, .int .i64 a0_1, .string a0_2, .string a0_3, .slice A0_4 l0_4.length c0_4] 30 (0, 0)) (by (with_reducible repeat (first | refine blk_drewN ?_ _ | refine blk_drew ?_ | refine blk_alloc ?_ _)); exact BK162.out) hb)
    have n1_ := Aside0.mk (blk_below (g := gb163) (o := .cells #[.int .i64 a1_0, .int .i64 a1_1, .string a1_2, .string a1_3, .slice A1_4 l1_4.length c1_4] 30 (0, 0)) (by (with_reducible repeat (first | refine blk_drewN ?_ _ | refine blk_drew ?_ | refine blk_alloc ?_ _)); exact BK163.out) hb)
    have n2_ := Aside0.mk (below_step (by repeat (first | (with_reducible first | exact HB.out | apply below_alloc | apply pw_below_drewN | apply below_drew1 | refine below_set ?_ GE162.out | refine below_set ?_ GE163.out) | exact HB.out)) hb)
    clear BK162
    clear BK163
    clear HB
    have BK162 := n0_
    have BK163 := n1_
    have HB := n2_
    clear n0_ n1_ n2_
    (try clear hb)
    (try clear hb2)
    (try clear hk)
    (try clear hi)
    refine hK.out _ _ ⟨(blk_cell BK162.out 0).trans rfl, (blk_cell BK162.out 1).trans rfl, (blk_cell BK162.out 2).trans rfl, (blk_cell BK162.out 3).trans rfl, (blk_cell BK162.out 4).trans rfl, (blk_cell BK163.out 0).trans rfl, (blk_cell BK163.out 1).trans rfl, (blk_cell BK163.out 2).trans rfl, (blk_cell BK163.out 3).trans rfl, (blk_cell BK163.out 4).trans rfl⟩ (fun hHeld => ?_)
    clear hK K
    refine norm_ (a' := ?_) ?_ ?_
    rotate_left
    · show Act.put _ (some 22) _ = _
      simp only [Act.put, List.setIfInBounds_toArray, List.set_cons_zero, List.set_cons_succ, i64_w, i32_w]
      rfl
    refine one_ (i := 17) (N := some 23) #[true, true, true, true, true, true, true, true, true, true, true, true, true, true, true, true, true, true, false, false] rfl rfl (one_of HT_.out (by kernel_rfl)) (by decide) (fun K hK => ?_)
    refine Kd.R_lit_step (Kd.int .i64) _ 3 ?hg (N := 23) ?hd (xs := ([t164, t165, t166] : List Int)) (inner := [.int .i64 t164, .int .i64 t165, .int .i64 t166]) (ok := fun _ => True) (okp := fun _ => True) ?hr ?hp (fun _ hk => hk) trivial (Below.refl _ _) (Nat.le_refl _) (by simp) ?_; (case hd => rfl); (case hg => rfl); (case hr => first | (go_simp; done) | (go_simp; rfl)); (case hp => exact (Reps.one (show Kd.M (Kd.int .i64) _ _ _ t164 [.int .i64 t164] from rfl) (Reps.one (show Kd.M (Kd.int .i64) _ _ _ t165 [.int .i64 t165] from rfl) (Reps.one (show Kd.M (Kd.int .i64) _ _ _ t166 [.int .i64 t166] from rfl) (Reps.none _ _)))))
    intro v168 w13 ho14 hb hg_ hnew_
    clear hg_ hnew_
    (first | rw [← Ny167.out] at ho14 | (simp only [Int.reduceToNat] at ho14; rw [← Ny167.out] at ho14))
    have n0_ := Aside0.mk (Kd.R_lower ho14 (below_size (by repeat (first | (with_reducible first | exact HB.out | apply below_alloc | apply pw_below_drewN | apply below_drew1 | refine below_set ?_ GE162.out | refine below_set ?_ GE163.out) | exact HB.out))))
    have n1_ := Aside0.mk (blk_below (g := gb162) (o := .cells #[.int .i64 a0_0, .int .i64 a0_1, .string a0_2, .string a0_3, .slice A0_4 l0_4.length c0_4] 30 (0, 0)) (by (with_reducible repeat (first | refine blk_drewN ?_ _ | refine blk_drew ?_ | refine blk_alloc ?_ _)); exact BK162.out) hb)
    have n2_ := Aside0.mk (blk_below (g := gb163) (o := .cells #[.int .i64 a1_0, .int .i64 a1_1, .string a1_2, .string a1_3, .slice A1_4 l1_4.length c1_4] 30 (0, 0)) (by (with_reducible repeat (first | refine blk_drewN ?_ _ | refine blk_drew ?_ | refine blk_alloc ?_ _)); exact BK163.out) hb)
    have n3_ := Aside0.mk (below_step (by repeat (first | (with_reducible first | exact HB.out | apply below_alloc | apply pw_below_drewN | apply below_drew1 | refine below_set ?_ GE162.out | refine below_set ?_ GE163.out) | exact HB.out)) hb)
    clear BK162
    clear BK163
    clear HB
    have HO169 := n0_
    have BK162 := n1_
    have BK163 := n2_
    have HB := n3_
    clear n0_ n1_ n2_ n3_
    clear hb ho14
    obtain ⟨Ao15, co15, eo15⟩ := Kd.R_slice HO169.out
    (first | subst eo15 | (injection eo15 with f1_ f2_ f3_; have f4_ := f1_.symm; have f5_ := f3_.symm; clear f1_ f2_ f3_; subst f4_; subst f5_))
    refine hK.out _ _ ⟨(blk_cell BK162.out 0).trans rfl, (blk_cell BK162.out 1).trans rfl, (blk_cell BK162.out 2).trans rfl, (blk_cell BK162.out 3).trans rfl, (blk_cell BK162.out 4).trans rfl, (blk_cell BK163.out 0).trans rfl, (blk_cell BK163.out 1).trans rfl, (blk_cell BK163.out 2).trans rfl, (blk_cell BK163.out 3).trans rfl, (blk_cell BK163.out 4).trans rfl⟩ (fun hHeld => ?_)
    clear hK K
    refine norm_ (a' := ?_) ?_ ?_
    rotate_left
    · show Act.put _ (some 23) _ = _
      simp only [Act.put, List.setIfInBounds_toArray, List.set_cons_zero, List.set_cons_succ, i64_w, i32_w]
      rfl
    refine one_ (i := 18) (N := some 24) #[true, true, true, true, true, true, true, true, true, true, true, true, true, true, true, true, true, true, true, false] rfl rfl (one_of HT_.out (by kernel_rfl)) (by decide) (fun K hK => ?_)
    refine goes_ Try.func21 (by kernel_rfl) rfl #[.slice Ao15 y167.length co15] (by rfl) rfl rfl (by (try simp only [List.map_toArray, List.map_cons, List.map_nil]); first | done | rfl | (simp only [List.length_drop, List.length_take]; rfl)) ?_
    with_reducible refine (cmp_Or_int.calls k _ _ y167 t170 _ ?side1 ?side2 A6.out).mono ?_
    (case side1 => repeat (first | exact (Kd.R_reads' HO169.out).2.2 | (with_reducible refine Kd.C_alloc ?_ _) | (with_reducible refine Kd.C_drewN ?_ _) | (with_reducible refine Kd.C_drew ?_)))
    (case side2 => exact (Kd.R_reads' HO169.out).2.1)
    rintro e w' ⟨rfl, ⟨nd, rfl⟩⟩
    refine ⟨_, rfl, ?_⟩
    refine hK.out _ _ ⟨(blk_cell BK162.out 0).trans rfl, (blk_cell BK162.out 1).trans rfl, (blk_cell BK162.out 2).trans rfl, (blk_cell BK162.out 3).trans rfl, (blk_cell BK162.out 4).trans rfl, (blk_cell BK163.out 0).trans rfl, (blk_cell BK163.out 1).trans rfl, (blk_cell BK163.out 2).trans rfl, (blk_cell BK163.out 3).trans rfl, (blk_cell BK163.out 4).trans rfl⟩ (fun hHeld => ?_)
    clear hK K
    refine norm_ (a' := ?_) ?_ ?_
    rotate_left
    · show Act.put _ (some 24) _ = _
      simp only [Act.put, List.setIfInBounds_toArray, List.set_cons_zero, List.set_cons_succ, i64_w, i32_w]
      rfl
    refine pure_ (i := 19) (N := some 5) (v := ?_) (a' := ?_) #[true, true, true, true, true, true, true, true, true, true, true, true, true, true, true, true, true, true, true, true] rfl rfl (any_of HT_.out (by kernel_rfl)) (fun _ _ _ h => h) (Or.inl ⟨by rfl, ?_⟩) ?_ ?_
    rotate_left
    · intro w'
      go_simp
      with_reducible rfl
    rotate_left
    · simp only [Act.put, List.setIfInBounds_toArray, List.set_cons_zero, List.set_cons_succ, i64_w, i32_w]
      rfl
    refine done_ (done_of HT_.out (by kernel_rfl)) ?_
    have hnb16 := NB162_163.out
    have hnc16 := NB163_162.out
    have hcz17_0 : w13.cell? ⟨gb162, 0, none⟩ = some (.int .i64 a0_0) := (blk_cell BK162.out 0).trans rfl
    have hcz17_1 : w13.cell? ⟨gb162, 1, none⟩ = some (.int .i64 a0_1) := (blk_cell BK162.out 1).trans rfl
    have hcz17_2 : w13.cell? ⟨gb162, 2, none⟩ = some (.string a0_2) := (blk_cell BK162.out 2).trans rfl
    have hcz17_3 : w13.cell? ⟨gb162, 3, none⟩ = some (.string a0_3) := (blk_cell BK162.out 3).trans rfl
    have hcz17_4 : w13.cell? ⟨gb162, 4, none⟩ = some (.slice A0_4 l0_4.length c0_4) := (blk_cell BK162.out 4).trans rfl
    have hfz17_0 := blk_frozen BK162.out 0
    have hfz17_1 := blk_frozen BK162.out 1
    have hfz17_2 := blk_frozen BK162.out 2
    have hfz17_3 := blk_frozen BK162.out 3
    have hfz17_4 := blk_frozen BK162.out 4
    have hcz18_0 : w13.cell? ⟨gb163, 0, none⟩ = some (.int .i64 a1_0) := (blk_cell BK163.out 0).trans rfl
    have hcz18_1 : w13.cell? ⟨gb163, 1, none⟩ = some (.int .i64 a1_1) := (blk_cell BK163.out 1).trans rfl
    have hcz18_2 : w13.cell? ⟨gb163, 2, none⟩ = some (.string a1_2) := (blk_cell BK163.out 2).trans rfl
    have hcz18_3 : w13.cell? ⟨gb163, 3, none⟩ = some (.string a1_3) := (blk_cell BK163.out 3).trans rfl
    have hcz18_4 : w13.cell? ⟨gb163, 4, none⟩ = some (.slice A1_4 l1_4.length c1_4) := (blk_cell BK163.out 4).trans rfl
    have hfz18_0 := blk_frozen BK163.out 0
    have hfz18_1 := blk_frozen BK163.out 1
    have hfz18_2 := blk_frozen BK163.out 2
    have hfz18_3 := blk_frozen BK163.out 3
    have hfz18_4 := blk_frozen BK163.out 4
    try go_wp2_with (first | ((with_reducible refine gate_callee (f := 26) rfl ?_); refine goesL_ (some 32) rfl rfl Try.func26 (by kernel_rfl) rfl #[.slice A0_4 l0_4.length c0_4, .slice A1_4 l1_4.length c1_4, .func (.func 12) #[] #[]] rfl (by (try simp only [List.map_toArray, List.map_cons, List.map_nil]); first | done | rfl | (simp only [List.length_drop, List.length_take]; rfl)) ?_; (with_reducible refine (slices_CompareFunc_term.calls _ _ l0_4 _ _ l1_4 t171 _ ?side1 ?side2 ?side3 ?side4 A8.out).mono ?_); (case side1 => repeat (first | exact (Kd.C_below HR0_4.out (by repeat (first | (with_reducible first | exact HB.out | apply below_alloc | apply pw_below_drewN | apply below_drew1 | refine below_set ?_ GE162.out | refine below_set ?_ GE163.out) | exact HB.out))) | (with_reducible refine Kd.C_alloc ?_ _) | (with_reducible refine Kd.C_drewN ?_ _) | (with_reducible refine Kd.C_drew ?_))); (case side2 => exact HC0_4.out); (case side3 => repeat (first | exact (Kd.C_below HR1_4.out (by repeat (first | (with_reducible first | exact HB.out | apply below_alloc | apply pw_below_drewN | apply below_drew1 | refine below_set ?_ GE162.out | refine below_set ?_ GE163.out) | exact HB.out))) | (with_reducible refine Kd.C_alloc ?_ _) | (with_reducible refine Kd.C_drewN ?_ _) | (with_reducible refine Kd.C_drew ?_))); (case side4 => exact HC1_4.out); rintro e w19 ⟨rfl, hb⟩; refine ⟨_, rfl, ?_⟩; have n0_ := Aside0.mk (Kd.R_below (by (with_reducible repeat (first | apply Kd.R_alloc | apply Kd.R_drewN | apply Kd.R_drew)); exact HO169.out) hb); have n1_ := Aside0.mk (blk_below (g := gb162) (o := .cells #[.int .i64 a0_0, .int .i64 a0_1, .string a0_2, .string a0_3, .slice A0_4 l0_4.length c0_4] 30 (0, 0)) (by (with_reducible repeat (first | refine blk_drewN ?_ _ | refine blk_drew ?_ | refine blk_alloc ?_ _)); exact BK162.out) hb); have n2_ := Aside0.mk (blk_below (g := gb163) (o := .cells #[.int .i64 a1_0, .int .i64 a1_1, .string a1_2, .string a1_3, .slice A1_4 l1_4.length c1_4] 30 (0, 0)) (by (with_reducible repeat (first | refine blk_drewN ?_ _ | refine blk_drew ?_ | refine blk_alloc ?_ _)); exact BK163.out) hb); have n3_ := Aside0.mk (below_step (by repeat (first | (with_reducible first | exact HB.out | apply below_alloc | apply pw_below_drewN | apply below_drew1 | refine below_set ?_ GE162.out | refine below_set ?_ GE163.out) | exact HB.out)) hb); clear HO169; clear BK162; clear BK163; clear HB; have HO169 := n0_; have BK162 := n1_; have BK163 := n2_; have HB := n3_; clear n0_ n1_ n2_ n3_; (try clear hb); (try clear hb2); (try clear hk); (try clear hi)))
    go_ret
    exact ⟨by first | rfl | (simp [errW_none, errW_some] <;> rfl) | (simp [errW_none, errW_some, bne, show ∀ l_ : List UInt8, (l_ == []) = l_.isEmpty from fun l_ => by cases l_ <;> rfl]; done) | (simp [*, errW_none, errW_some] <;> rfl), by repeat (first | (with_reducible first | exact HB.out | apply below_alloc | apply pw_below_drewN | apply below_drew1 | refine below_set ?_ GE162.out | refine below_set ?_ GE163.out) | exact HB.out)⟩
  · rw [if_neg c7] at H
    have c7b0 : (t170 == 0) = false := beq_eq_false_iff_ne.mpr c7
    have c7b1 : (t170 != 0) = true := bne_iff_ne.mpr c7
    obtain rfl := Option.some.inj H
    go_enter Try.func15, Try.ntmps15
    try go_wp2_with (first | ((with_reducible refine gate_dst (N := 2) rfl ?_); refine box_event ?hg (N := 2) ?hd (cs := #[.int .i64 a0_0, .int .i64 a0_1, .string a0_2, .string a0_3, .slice A0_4 l0_4.length c0_4]) (t := 30) ?hr ?_; (case hd => rfl); (case hg => rfl); (case hr => first | (go_simp; done) | (go_simp; rfl)); intro gb162 hg w20 hbox hb; have n0_ := Aside0.mk (below_step (by repeat (first | (with_reducible first | exact HB.out | apply below_alloc | apply pw_below_drewN | apply below_drew1) | exact HB.out)) hb); have n1_ := Aside0.mk (hbox); have n2_ := Aside0.mk ((by rw [hg]; exact (below_size (by repeat (first | (with_reducible first | exact HB.out | apply below_alloc | apply pw_below_drewN | apply below_drew1) | exact HB.out))) : w.heap.size ≤ gb162)); have n3_ := Aside0.mk ((by rw [hg]; exact (below_size (by repeat (first | (with_reducible first | exact HB.out | apply below_alloc | apply pw_below_drewN | apply below_drew1) | exact HB.out))) : w.heap.size ≤ gb162)); clear HB; have HB := n0_; have BK162 := n1_; have GW162 := n2_; have GE162 := n3_; clear n0_ n1_ n2_ n3_; clear hb hbox hg) | ((with_reducible refine gate_dst (N := 3) rfl ?_); refine box_event ?hg (N := 3) ?hd (cs := #[.int .i64 a1_0, .int .i64 a1_1, .string a1_2, .string a1_3, .slice A1_4 l1_4.length c1_4]) (t := 30) ?hr ?_; (case hd => rfl); (case hg => rfl); (case hr => first | (go_simp; done) | (go_simp; rfl)); intro gb163 hg w21 hbox hb; have n0_ := Aside0.mk (blk_below (g := gb162) (o := .cells #[.int .i64 a0_0, .int .i64 a0_1, .string a0_2, .string a0_3, .slice A0_4 l0_4.length c0_4] 30 (0, 0)) (by (with_reducible repeat (first | refine blk_drewN ?_ _ | refine blk_drew ?_ | refine blk_alloc ?_ _)); exact BK162.out) hb); have n1_ := Aside0.mk (below_step (by repeat (first | (with_reducible first | exact HB.out | apply below_alloc | apply pw_below_drewN | apply below_drew1 | refine below_set ?_ GE162.out) | exact HB.out)) hb); have n2_ := Aside0.mk (hbox); have n3_ := Aside0.mk ((by rw [hg]; exact (below_size (by repeat (first | (with_reducible first | exact HB.out | apply below_alloc | apply pw_below_drewN | apply below_drew1 | refine below_set ?_ GE162.out) | exact HB.out))) : w.heap.size ≤ gb163)); have n4_ := Aside0.mk ((by rw [hg]; exact (below_size (by repeat (first | (with_reducible first | exact HB.out | apply below_alloc | apply pw_below_drewN | apply below_drew1 | refine below_set ?_ GE162.out) | exact HB.out))) : w.heap.size ≤ gb163)); have n5_ := Aside0.mk ((by rw [hg]; exact Nat.ne_of_lt (blk_lt (g := gb162) (o := .cells #[.int .i64 a0_0, .int .i64 a0_1, .string a0_2, .string a0_3, .slice A0_4 l0_4.length c0_4] 30 (0, 0)) (by (with_reducible repeat (first | refine blk_drewN ?_ _ | refine blk_drew ?_ | refine blk_alloc ?_ _)); exact BK162.out)) : gb162 ≠ gb163)); have n6_ := Aside0.mk ((by rw [hg]; exact Nat.ne_of_gt (blk_lt (g := gb162) (o := .cells #[.int .i64 a0_0, .int .i64 a0_1, .string a0_2, .string a0_3, .slice A0_4 l0_4.length c0_4] 30 (0, 0)) (by (with_reducible repeat (first | refine blk_drewN ?_ _ | refine blk_drew ?_ | refine blk_alloc ?_ _)); exact BK162.out)) : gb163 ≠ gb162)); clear BK162; clear HB; have BK162 := n0_; have HB := n1_; have BK163 := n2_; have GW163 := n3_; have GE163 := n4_; have NB162_163 := n5_; have NB163_162 := n6_; clear n0_ n1_ n2_ n3_ n4_ n5_ n6_; clear hb hbox hg))
    have n0_ := Aside0.mk (blk_drew BK162.out)
    have n1_ := Aside0.mk (blk_drew BK163.out)
    have n2_ := Aside0.mk (below_drew1 HB.out)
    clear BK162
    clear BK163
    clear HB
    have BK162 := n0_
    have BK163 := n1_
    have HB := n2_
    clear n0_ n1_ n2_
    refine start_ (n := 20) (S := fun w' => w'.cell? ⟨gb162, 0, none⟩ = some (.int .i64 a0_0) ∧ w'.cell? ⟨gb162, 1, none⟩ = some (.int .i64 a0_1) ∧ w'.cell? ⟨gb162, 2, none⟩ = some (.string a0_2) ∧ w'.cell? ⟨gb162, 3, none⟩ = some (.string a0_3) ∧ w'.cell? ⟨gb162, 4, none⟩ = some (.slice A0_4 l0_4.length c0_4) ∧ w'.cell? ⟨gb163, 0, none⟩ = some (.int .i64 a1_0) ∧ w'.cell? ⟨gb163, 1, none⟩ = some (.int .i64 a1_1) ∧ w'.cell? ⟨gb163, 2, none⟩ = some (.string a1_2) ∧ w'.cell? ⟨gb163, 3, none⟩ = some (.string a1_3) ∧ w'.cell? ⟨gb163, 4, none⟩ = some (.slice A1_4 l1_4.length c1_4)) (ds := []) #[false, false, false, false, false, false, false, false, false, false, false, false, false, false, false, false, false, false, false, false] (by kernel_rfl) rfl rfl ⟨(blk_cell BK162.out 0).trans rfl, (blk_cell BK162.out 1).trans rfl, (blk_cell BK162.out 2).trans rfl, (blk_cell BK162.out 3).trans rfl, (blk_cell BK162.out 4).trans rfl, (blk_cell BK163.out 0).trans rfl, (blk_cell BK163.out 1).trans rfl, (blk_cell BK163.out 2).trans rfl, (blk_cell BK163.out 3).trans rfl, (blk_cell BK163.out 4).trans rfl⟩ (fun hHeld => ?_); refine with_tabW term_CompareAtoms.tab1 term_CompareAtoms.bits1 (fun HT_ HW_ => ?_)
    generalize w21.drew = w22 at BK162 BK163 HB hHeld ⊢
    refine pure_ (i := 0) (N := some 6) (v := ?_) (a' := ?_) #[true, false, false, false, false, false, false, false, false, false, false, false, false, false, false, false, false, false, false, false] rfl rfl (any_of HT_.out (by kernel_rfl)) (fun _ _ _ h => h) (Or.inl ⟨by rfl, ?_⟩) ?_ ?_
    rotate_left
    · intro w'
      go_simp
      with_reducible rfl
    rotate_left
    · simp only [Act.put, List.setIfInBounds_toArray, List.set_cons_zero, List.set_cons_succ, i64_w, i32_w]
      rfl
    refine pure_ (i := 2) (N := some 8) (v := ?_) (a' := ?_) #[true, false, true, false, false, false, false, false, false, false, false, false, false, false, false, false, false, false, false, false] rfl rfl (any_of HT_.out (by kernel_rfl)) (fun _ _ _ h => h) (Or.inl ⟨by rfl, ?_⟩) ?_ ?_
    rotate_left
    · intro w'
      go_simp
      with_reducible rfl
    rotate_left
    · simp only [Act.put, List.setIfInBounds_toArray, List.set_cons_zero, List.set_cons_succ, i64_w, i32_w]
      rfl
    refine pure_ (i := 5) (N := some 11) (v := ?_) (a' := ?_) #[true, false, true, false, false, true, false, false, false, false, false, false, false, false, false, false, false, false, false, false] rfl rfl (any_of HT_.out (by kernel_rfl)) (fun _ _ _ h => h) (Or.inl ⟨by rfl, ?_⟩) ?_ ?_
    rotate_left
    · intro w'
      go_simp
      with_reducible rfl
    rotate_left
    · simp only [Act.put, List.setIfInBounds_toArray, List.set_cons_zero, List.set_cons_succ, i64_w, i32_w]
      rfl
    refine pure_ (i := 8) (N := some 14) (v := ?_) (a' := ?_) #[true, false, true, false, false, true, false, false, true, false, false, false, false, false, false, false, false, false, false, false] rfl rfl (any_of HT_.out (by kernel_rfl)) (fun _ _ _ h => h) (Or.inl ⟨by rfl, ?_⟩) ?_ ?_
    rotate_left
    · intro w'
      go_simp
      with_reducible rfl
    rotate_left
    · simp only [Act.put, List.setIfInBounds_toArray, List.set_cons_zero, List.set_cons_succ, i64_w, i32_w]
      rfl
    refine pure_ (i := 12) (N := some 18) (v := ?_) (a' := ?_) #[true, false, true, false, false, true, false, false, true, false, false, false, true, false, false, false, false, false, false, false] rfl rfl (any_of HT_.out (by kernel_rfl)) (fun _ _ _ h => h) (Or.inl ⟨by rfl, ?_⟩) ?_ ?_
    rotate_left
    · intro w'
      go_simp
      with_reducible rfl
    rotate_left
    · simp only [Act.put, List.setIfInBounds_toArray, List.set_cons_zero, List.set_cons_succ, i64_w, i32_w]
      rfl
    refine pure_ (i := 14) (N := some 20) (v := ?_) (a' := ?_) #[true, false, true, false, false, true, false, false, true, false, false, false, true, false, true, false, false, false, false, false] rfl rfl (any_of HT_.out (by kernel_rfl)) (fun _ _ _ h => h) (Or.inl ⟨by rfl, ?_⟩) ?_ ?_
    rotate_left
    · intro w'
      go_simp
      with_reducible rfl
    rotate_left
    · simp only [Act.put, List.setIfInBounds_toArray, List.set_cons_zero, List.set_cons_succ, i64_w, i32_w]
      rfl
    refine take_ (i := 1) (N := some 7) (v := ?_) (a' := ?_) #[true, true, true, false, false, true, false, false, true, false, false, false, true, false, true, false, false, false, false, false] rfl rfl (take_ofW HT_.out HW_.out (by kernel_rfl)) (fun _ _ _ h => h) (Or.inl ⟨by rfl, ?_⟩) hHeld ?_ ?_
    rotate_left
    · rintro w' ⟨s0, s1, s2, s3, s4, s5, s6, s7, s8, s9⟩
      go_simp
      with_reducible rfl
    rotate_left
    · simp only [Act.put, List.setIfInBounds_toArray, List.set_cons_zero, List.set_cons_succ, i64_w, i32_w]
      rfl
    refine take_ (i := 3) (N := some 9) (v := ?_) (a' := ?_) #[true, true, true, true, false, true, false, false, true, false, false, false, true, false, true, false, false, false, false, false] rfl rfl (take_ofW HT_.out HW_.out (by kernel_rfl)) (fun _ _ _ h => h) (Or.inl ⟨by rfl, ?_⟩) hHeld ?_ ?_
    rotate_left
    · rintro w' ⟨s0, s1, s2, s3, s4, s5, s6, s7, s8, s9⟩
      go_simp
      with_reducible rfl
    rotate_left
    · simp only [Act.put, List.setIfInBounds_toArray, List.set_cons_zero, List.set_cons_succ, i64_w, i32_w]
      rfl
    refine take_ (i := 6) (N := some 12) (v := ?_) (a' := ?_) #[true, true, true, true, false, true, true, false, true, false, false, false, true, false, true, false, false, false, false, false] rfl rfl (take_ofW HT_.out HW_.out (by kernel_rfl)) (fun _ _ _ h => h) (Or.inl ⟨by rfl, ?_⟩) hHeld ?_ ?_
    rotate_left
    · rintro w' ⟨s0, s1, s2, s3, s4, s5, s6, s7, s8, s9⟩
      go_simp
      with_reducible rfl
    rotate_left
    · simp only [Act.put, List.setIfInBounds_toArray, List.set_cons_zero, List.set_cons_succ, i64_w, i32_w]
      rfl
    refine pure_ (i := 7) (N := some 13) (v := ?_) (a' := ?_) #[true, true, true, true, false, true, true, true, true, false, false, false, true, false, true, false, false, false, false, false] rfl rfl (any_of HT_.out (by kernel_rfl)) (fun _ _ _ h => h) (Or.inl ⟨by rfl, ?_⟩) ?_ ?_
    rotate_left
    · intro w'
      go_simp
      with_reducible rfl
    rotate_left
    · simp only [Act.put, List.setIfInBounds_toArray, List.set_cons_zero, List.set_cons_succ, i64_w, i32_w]
      rfl
    refine take_ (i := 9) (N := some 15) (v := ?_) (a' := ?_) #[true, true, true, true, false, true, true, true, true, true, false, false, true, false, true, false, false, false, false, false] rfl rfl (take_ofW HT_.out HW_.out (by kernel_rfl)) (fun _ _ _ h => h) (Or.inl ⟨by rfl, ?_⟩) hHeld ?_ ?_
    rotate_left
    · rintro w' ⟨s0, s1, s2, s3, s4, s5, s6, s7, s8, s9⟩
      go_simp
      with_reducible rfl
    rotate_left
    · simp only [Act.put, List.setIfInBounds_toArray, List.set_cons_zero, List.set_cons_succ, i64_w, i32_w]
      rfl
    refine pure_ (i := 10) (N := some 16) (v := ?_) (a' := ?_) #[true, true, true, true, false, true, true, true, true, true, true, false, true, false, true, false, false, false, false, false] rfl rfl (any_of HT_.out (by kernel_rfl)) (fun _ _ _ h => h) (Or.inl ⟨by rfl, ?_⟩) ?_ ?_
    rotate_left
    · intro w'
      go_simp
      with_reducible rfl
    rotate_left
    · simp only [Act.put, List.setIfInBounds_toArray, List.set_cons_zero, List.set_cons_succ, i64_w, i32_w]
      rfl
    refine take_ (i := 13) (N := some 19) (v := ?_) (a' := ?_) #[true, true, true, true, false, true, true, true, true, true, true, false, true, true, true, false, false, false, false, false] rfl rfl (take_ofW HT_.out HW_.out (by kernel_rfl)) (fun _ _ _ h => h) (Or.inl ⟨by rfl, ?_⟩) hHeld ?_ ?_
    rotate_left
    · rintro w' ⟨s0, s1, s2, s3, s4, s5, s6, s7, s8, s9⟩
      go_simp
      with_reducible rfl
    rotate_left
    · simp only [Act.put, List.setIfInBounds_toArray, List.set_cons_zero, List.set_cons_succ, i64_w, i32_w]
      rfl
    refine take_ (i := 15) (N := some 21) (v := ?_) (a' := ?_) #[true, true, true, true, false, true, true, true, true, true, true, false, true, true, true, true, false, false, false, false] rfl rfl (take_ofW HT_.out HW_.out (by kernel_rfl)) (fun _ _ _ h => h) (Or.inl ⟨by rfl, ?_⟩) hHeld ?_ ?_
    rotate_left
    · rintro w' ⟨s0, s1, s2, s3, s4, s5, s6, s7, s8, s9⟩
      go_simp
      with_reducible rfl
    rotate_left
    · simp only [Act.put, List.setIfInBounds_toArray, List.set_cons_zero, List.set_cons_succ, i64_w, i32_w]
      rfl
    refine one_ (i := 4) (N := some 10) #[true, true, true, true, true, true, true, true, true, true, true, false, true, true, true, true, false, false, false, false] rfl rfl (one_of HT_.out (by kernel_rfl)) (by decide) (fun K hK => ?_)
    refine goes_ Try.func23 (by kernel_rfl) rfl #[.string a0_3, .string a1_3] (by rfl) rfl rfl (by (try simp only [List.map_toArray, List.map_cons, List.map_nil]); first | done | rfl | (simp only [List.length_drop, List.length_take]; rfl)) ?_
    with_reducible refine (strings_Compare.calls a0_3 a1_3 t164 _ A3.out).mono ?_
    rintro e w' ⟨rfl, ⟨nd, rfl⟩⟩
    refine ⟨_, rfl, ?_⟩
    refine hK.out _ _ ⟨(blk_cell BK162.out 0).trans rfl, (blk_cell BK162.out 1).trans rfl, (blk_cell BK162.out 2).trans rfl, (blk_cell BK162.out 3).trans rfl, (blk_cell BK162.out 4).trans rfl, (blk_cell BK163.out 0).trans rfl, (blk_cell BK163.out 1).trans rfl, (blk_cell BK163.out 2).trans rfl, (blk_cell BK163.out 3).trans rfl, (blk_cell BK163.out 4).trans rfl⟩ (fun hHeld => ?_)
    clear hK K
    refine norm_ (a' := ?_) ?_ ?_
    rotate_left
    · show Act.put _ (some 10) _ = _
      simp only [Act.put, List.setIfInBounds_toArray, List.set_cons_zero, List.set_cons_succ, i64_w, i32_w]
      rfl
    refine one_ (i := 11) (N := some 17) #[true, true, true, true, true, true, true, true, true, true, true, true, true, true, true, true, false, false, false, false] rfl rfl (one_of HT_.out (by kernel_rfl)) (by decide) (fun K hK => ?_)
    refine goes_ Try.func22 (by kernel_rfl) rfl #[.int .i64 (l0_4.length : Int), .int .i64 (l1_4.length : Int)] (by rfl) rfl rfl (by (try simp only [List.map_toArray, List.map_cons, List.map_nil]); first | done | rfl | (simp only [List.length_drop, List.length_take]; rfl)) ?_
    with_reducible refine (cmp_Compare_int.calls (l0_4.length : Int) (l1_4.length : Int) t165 _ A4.out).mono ?_
    rintro e w' ⟨rfl, ⟨nd, rfl⟩⟩
    refine ⟨_, rfl, ?_⟩
    refine hK.out _ _ ⟨(blk_cell BK162.out 0).trans rfl, (blk_cell BK162.out 1).trans rfl, (blk_cell BK162.out 2).trans rfl, (blk_cell BK162.out 3).trans rfl, (blk_cell BK162.out 4).trans rfl, (blk_cell BK163.out 0).trans rfl, (blk_cell BK163.out 1).trans rfl, (blk_cell BK163.out 2).trans rfl, (blk_cell BK163.out 3).trans rfl, (blk_cell BK163.out 4).trans rfl⟩ (fun hHeld => ?_)
    clear hK K
    refine norm_ (a' := ?_) ?_ ?_
    rotate_left
    · show Act.put _ (some 17) _ = _
      simp only [Act.put, List.setIfInBounds_toArray, List.set_cons_zero, List.set_cons_succ, i64_w, i32_w]
      rfl
    refine one_ (i := 16) (N := some 22) #[true, true, true, true, true, true, true, true, true, true, true, true, true, true, true, true, true, false, false, false] rfl rfl (one_of HT_.out (by kernel_rfl)) (by decide) (fun K hK => ?_)
    refine goes_ Try.func12 (by kernel_rfl) rfl #[.agg #[.int .i64 a0_0, .int .i64 a0_1, .string a0_2], .agg #[.int .i64 a1_0, .int .i64 a1_1, .string a1_2]] (by rfl) rfl rfl (by (try simp only [List.map_toArray, List.map_cons, List.map_nil]); first | done | rfl | (simp only [List.length_drop, List.length_take]; rfl)) ?_
    with_reducible refine (term_Compare.calls k a0_0 a0_1 a0_2 a1_0 a1_1 a1_2 t166 _ A5.out).mono ?_
    rintro e w23 ⟨rfl, hb⟩
    refine ⟨_, rfl, ?_⟩
    have n0_ := Aside0.mk (blk_below (g := gb162) (o := .cells #[.int .i64 a0_0, .int .i64 a0_1, .string a0_2, .string a0_3, .slice A0_4 l0_4.length c0_4] 30 (0, 0)) (by (with_reducible repeat (first | refine blk_drewN ?_ _ | refine blk_drew ?_ | refine blk_alloc ?_ _)); exact BK162.out) hb)
    have n1_ := Aside0.mk (blk_below (g := gb163) (o := .cells #[.int .i64 a1_0, .int .i64 a1_1, .string a1_2, .string a1_3, .slice A1_4 l1_4.length c1_4] 30 (0, 0)) (by (with_reducible repeat (first | refine blk_drewN ?_ _ | refine blk_drew ?_ | refine blk_alloc ?_ _)); exact BK163.out) hb)
    have n2_ := Aside0.mk (below_step (by repeat (first | (with_reducible first | exact HB.out | apply below_alloc | apply pw_below_drewN | apply below_drew1 | refine below_set ?_ GE162.out | refine below_set ?_ GE163.out) | exact HB.out)) hb)
    clear BK162
    clear BK163
    clear HB
    have BK162 := n0_
    have BK163 := n1_
    have HB := n2_
    clear n0_ n1_ n2_
    (try clear hb)
    (try clear hb2)
    (try clear hk)
    (try clear hi)
    refine hK.out _ _ ⟨(blk_cell BK162.out 0).trans rfl, (blk_cell BK162.out 1).trans rfl, (blk_cell BK162.out 2).trans rfl, (blk_cell BK162.out 3).trans rfl, (blk_cell BK162.out 4).trans rfl, (blk_cell BK163.out 0).trans rfl, (blk_cell BK163.out 1).trans rfl, (blk_cell BK163.out 2).trans rfl, (blk_cell BK163.out 3).trans rfl, (blk_cell BK163.out 4).trans rfl⟩ (fun hHeld => ?_)
    clear hK K
    refine norm_ (a' := ?_) ?_ ?_
    rotate_left
    · show Act.put _ (some 22) _ = _
      simp only [Act.put, List.setIfInBounds_toArray, List.set_cons_zero, List.set_cons_succ, i64_w, i32_w]
      rfl
    refine one_ (i := 17) (N := some 23) #[true, true, true, true, true, true, true, true, true, true, true, true, true, true, true, true, true, true, false, false] rfl rfl (one_of HT_.out (by kernel_rfl)) (by decide) (fun K hK => ?_)
    refine Kd.R_lit_step (Kd.int .i64) _ 3 ?hg (N := 23) ?hd (xs := ([t164, t165, t166] : List Int)) (inner := [.int .i64 t164, .int .i64 t165, .int .i64 t166]) (ok := fun _ => True) (okp := fun _ => True) ?hr ?hp (fun _ hk => hk) trivial (Below.refl _ _) (Nat.le_refl _) (by simp) ?_; (case hd => rfl); (case hg => rfl); (case hr => first | (go_simp; done) | (go_simp; rfl)); (case hp => exact (Reps.one (show Kd.M (Kd.int .i64) _ _ _ t164 [.int .i64 t164] from rfl) (Reps.one (show Kd.M (Kd.int .i64) _ _ _ t165 [.int .i64 t165] from rfl) (Reps.one (show Kd.M (Kd.int .i64) _ _ _ t166 [.int .i64 t166] from rfl) (Reps.none _ _)))))
    intro v168 w24 ho25 hb hg_ hnew_
    clear hg_ hnew_
    (first | rw [← Ny167.out] at ho25 | (simp only [Int.reduceToNat] at ho25; rw [← Ny167.out] at ho25))
    have n0_ := Aside0.mk (Kd.R_lower ho25 (below_size (by repeat (first | (with_reducible first | exact HB.out | apply below_alloc | apply pw_below_drewN | apply below_drew1 | refine below_set ?_ GE162.out | refine below_set ?_ GE163.out) | exact HB.out))))
    have n1_ := Aside0.mk (blk_below (g := gb162) (o := .cells #[.int .i64 a0_0, .int .i64 a0_1, .string a0_2, .string a0_3, .slice A0_4 l0_4.length c0_4] 30 (0, 0)) (by (with_reducible repeat (first | refine blk_drewN ?_ _ | refine blk_drew ?_ | refine blk_alloc ?_ _)); exact BK162.out) hb)
    have n2_ := Aside0.mk (blk_below (g := gb163) (o := .cells #[.int .i64 a1_0, .int .i64 a1_1, .string a1_2, .string a1_3, .slice A1_4 l1_4.length c1_4] 30 (0, 0)) (by (with_reducible repeat (first | refine blk_drewN ?_ _ | refine blk_drew ?_ | refine blk_alloc ?_ _)); exact BK163.out) hb)
    have n3_ := Aside0.mk (below_step (by repeat (first | (with_reducible first | exact HB.out | apply below_alloc | apply pw_below_drewN | apply below_drew1 | refine below_set ?_ GE162.out | refine below_set ?_ GE163.out) | exact HB.out)) hb)
    clear BK162
    clear BK163
    clear HB
    have HO169 := n0_
    have BK162 := n1_
    have BK163 := n2_
    have HB := n3_
    clear n0_ n1_ n2_ n3_
    clear hb ho25
    obtain ⟨Ao26, co26, eo26⟩ := Kd.R_slice HO169.out
    (first | subst eo26 | (injection eo26 with f1_ f2_ f3_; have f4_ := f1_.symm; have f5_ := f3_.symm; clear f1_ f2_ f3_; subst f4_; subst f5_))
    refine hK.out _ _ ⟨(blk_cell BK162.out 0).trans rfl, (blk_cell BK162.out 1).trans rfl, (blk_cell BK162.out 2).trans rfl, (blk_cell BK162.out 3).trans rfl, (blk_cell BK162.out 4).trans rfl, (blk_cell BK163.out 0).trans rfl, (blk_cell BK163.out 1).trans rfl, (blk_cell BK163.out 2).trans rfl, (blk_cell BK163.out 3).trans rfl, (blk_cell BK163.out 4).trans rfl⟩ (fun hHeld => ?_)
    clear hK K
    refine norm_ (a' := ?_) ?_ ?_
    rotate_left
    · show Act.put _ (some 23) _ = _
      simp only [Act.put, List.setIfInBounds_toArray, List.set_cons_zero, List.set_cons_succ, i64_w, i32_w]
      rfl
    refine one_ (i := 18) (N := some 24) #[true, true, true, true, true, true, true, true, true, true, true, true, true, true, true, true, true, true, true, false] rfl rfl (one_of HT_.out (by kernel_rfl)) (by decide) (fun K hK => ?_)
    refine goes_ Try.func21 (by kernel_rfl) rfl #[.slice Ao26 y167.length co26] (by rfl) rfl rfl (by (try simp only [List.map_toArray, List.map_cons, List.map_nil]); first | done | rfl | (simp only [List.length_drop, List.length_take]; rfl)) ?_
    with_reducible refine (cmp_Or_int.calls k _ _ y167 t170 _ ?side1 ?side2 A6.out).mono ?_
    (case side1 => repeat (first | exact (Kd.R_reads' HO169.out).2.2 | (with_reducible refine Kd.C_alloc ?_ _) | (with_reducible refine Kd.C_drewN ?_ _) | (with_reducible refine Kd.C_drew ?_)))
    (case side2 => exact (Kd.R_reads' HO169.out).2.1)
    rintro e w' ⟨rfl, ⟨nd, rfl⟩⟩
    refine ⟨_, rfl, ?_⟩
    refine hK.out _ _ ⟨(blk_cell BK162.out 0).trans rfl, (blk_cell BK162.out 1).trans rfl, (blk_cell BK162.out 2).trans rfl, (blk_cell BK162.out 3).trans rfl, (blk_cell BK162.out 4).trans rfl, (blk_cell BK163.out 0).trans rfl, (blk_cell BK163.out 1).trans rfl, (blk_cell BK163.out 2).trans rfl, (blk_cell BK163.out 3).trans rfl, (blk_cell BK163.out 4).trans rfl⟩ (fun hHeld => ?_)
    clear hK K
    refine norm_ (a' := ?_) ?_ ?_
    rotate_left
    · show Act.put _ (some 24) _ = _
      simp only [Act.put, List.setIfInBounds_toArray, List.set_cons_zero, List.set_cons_succ, i64_w, i32_w]
      rfl
    refine pure_ (i := 19) (N := some 5) (v := ?_) (a' := ?_) #[true, true, true, true, true, true, true, true, true, true, true, true, true, true, true, true, true, true, true, true] rfl rfl (any_of HT_.out (by kernel_rfl)) (fun _ _ _ h => h) (Or.inl ⟨by rfl, ?_⟩) ?_ ?_
    rotate_left
    · intro w'
      go_simp
      with_reducible rfl
    rotate_left
    · simp only [Act.put, List.setIfInBounds_toArray, List.set_cons_zero, List.set_cons_succ, i64_w, i32_w]
      rfl
    refine done_ (done_of HT_.out (by kernel_rfl)) ?_
    try go_wp2
    go_ret
    exact ⟨by first | rfl | (simp [errW_none, errW_some] <;> rfl) | (simp [errW_none, errW_some, bne, show ∀ l_ : List UInt8, (l_ == []) = l_.isEmpty from fun l_ => by cases l_ <;> rfl]; done) | (simp [*, errW_none, errW_some] <;> rfl), by repeat (first | (with_reducible first | exact HB.out | apply below_alloc | apply pw_below_drewN | apply below_drew1 | refine below_set ?_ GE162.out | refine below_set ?_ GE163.out) | exact HB.out)⟩

-- NOT PRINTED: function 4 (hearsaylaw02_TermOrder)

-- GIVEN: function 17 (term_Vars)

-- GIVEN: function 18 (term_Unify)

end Go.Proofs.Ytnomgmlfagiffaa.T
/- By a program of this session (wip/tools/squeeze.py), out of the translation: hearsaylaw02_TermOrder. -/
namespace Go.Proofs.Ytnomgmlfagiffaa.T
open Go.RowKit Go.Proofs.YtnomgmlfagiffaaW.PrintWords Go.Proofs.YtnomgmlfagiffaaW.PrintLast Go.Proofs.YtnomgmlfagiffaaW.PrintMore
attribute [local go_sem] max2_int min2_int max_two min_two max_three min_three max_four min_four   -- for this text's walks alone
set_option linter.unusedVariables false
set_option linter.unusedSimpArgs false

attribute [local go_sem high] eqA23
abbrev qn := @pw_below_drewN
abbrev qa := @blk_drewN
abbrev qb := @blk_drew
abbrev qc := @blk_alloc
abbrev qd := @below_set
abbrev qe := @below_drew1
abbrev qf := @below_alloc
abbrev ql := @World.block_lt_of_cell?
abbrev qw := @blk_below
abbrev qx := @Kd.R_drewN
abbrev qy := @Kd.R_drew
abbrev qz := @Kd.R_alloc
abbrev qh := @blk_cell
abbrev qg := @blk_frozen
abbrev qi := @Kd.own_blk
abbrev qj := @Kd.R_ne
mutual
def hearsaylaw02_TermOrder.j0 : Nat → Int → Int → Int → Bool → Int → Int → ByteArray → ByteArray → List (S23) → Int → Int → ByteArray → ByteArray → List (S23) → Int → Int → ByteArray → ByteArray → List (S23) → Option (Bool)
  | 0, _, _, _, _, _, _, _, _, _, _, _, _, _, _, _, _, _, _, _ => none
  | k + 1, x7, x8, x9, x45, x151000, x151001, x151002, x151003, x151004, x152000, x152001, x152002, x152003, x152004, x153000, x153001, x153002, x153003, x153004 => if x45 = true then (some false) else (if x7 ≤ 0 then (if x8 ≤ 0 then (if x9 > 0 then (hearsaylaw02_TermOrder.j1 k true x151000 x151001 x151002 x151003 x151004 x152000 x152001 x152002 x152003 x152004 x153000 x153001 x153002 x153003 x153004) else (if x7 ≥ 0 then (if x8 ≥ 0 then (if x9 < 0 then (hearsaylaw02_TermOrder.j1 k true x151000 x151001 x151002 x151003 x151004 x152000 x152001 x152002 x152003 x152004 x153000 x153001 x153002 x153003 x153004) else (if x7 < 0 then (hearsaylaw02_TermOrder.j1 k (decide (x9 ≥ 0)) x151000 x151001 x151002 x151003 x151004 x152000 x152001 x152002 x152003 x152004 x153000 x153001 x153002 x153003 x153004) else (hearsaylaw02_TermOrder.j1 k false x151000 x151001 x151002 x151003 x151004 x152000 x152001 x152002 x152003 x152004 x153000 x153001 x153002 x153003 x153004))) else (if x7 < 0 then (hearsaylaw02_TermOrder.j1 k (decide (x9 ≥ 0)) x151000 x151001 x151002 x151003 x151004 x152000 x152001 x152002 x152003 x152004 x153000 x153001 x153002 x153003 x153004) else (hearsaylaw02_TermOrder.j1 k false x151000 x151001 x151002 x151003 x151004 x152000 x152001 x152002 x152003 x152004 x153000 x153001 x153002 x153003 x153004))) else (if x7 < 0 then (hearsaylaw02_TermOrder.j1 k (decide (x9 ≥ 0)) x151000 x151001 x151002 x151003 x151004 x152000 x152001 x152002 x152003 x152004 x153000 x153001 x153002 x153003 x153004) else (hearsaylaw02_TermOrder.j1 k false x151000 x151001 x151002 x151003 x151004 x152000 x152001 x152002 x152003 x152004 x153000 x153001 x153002 x153003 x153004)))) else (if x7 ≥ 0 then (if x8 ≥ 0 then (if x9 < 0 then (hearsaylaw02_TermOrder.j1 k true x151000 x151001 x151002 x151003 x151004 x152000 x152001 x152002 x152003 x152004 x153000 x153001 x153002 x153003 x153004) else (if x7 < 0 then (hearsaylaw02_TermOrder.j1 k false x151000 x151001 x151002 x151003 x151004 x152000 x152001 x152002 x152003 x152004 x153000 x153001 x153002 x153003 x153004) else (hearsaylaw02_TermOrder.j1 k false x151000 x151001 x151002 x151003 x151004 x152000 x152001 x152002 x152003 x152004 x153000 x153001 x153002 x153003 x153004))) else (if x7 < 0 then (hearsaylaw02_TermOrder.j1 k false x151000 x151001 x151002 x151003 x151004 x152000 x152001 x152002 x152003 x152004 x153000 x153001 x153002 x153003 x153004) else (hearsaylaw02_TermOrder.j1 k false x151000 x151001 x151002 x151003 x151004 x152000 x152001 x152002 x152003 x152004 x153000 x153001 x153002 x153003 x153004))) else (if x7 < 0 then (hearsaylaw02_TermOrder.j1 k false x151000 x151001 x151002 x151003 x151004 x152000 x152001 x152002 x152003 x152004 x153000 x153001 x153002 x153003 x153004) else (hearsaylaw02_TermOrder.j1 k false x151000 x151001 x151002 x151003 x151004 x152000 x152001 x152002 x152003 x152004 x153000 x153001 x153002 x153003 x153004)))) else (if x7 ≥ 0 then (if x8 ≥ 0 then (if x9 < 0 then (hearsaylaw02_TermOrder.j1 k true x151000 x151001 x151002 x151003 x151004 x152000 x152001 x152002 x152003 x152004 x153000 x153001 x153002 x153003 x153004) else (if x7 < 0 then (if x8 ≤ 0 then (hearsaylaw02_TermOrder.j1 k (decide (x9 ≥ 0)) x151000 x151001 x151002 x151003 x151004 x152000 x152001 x152002 x152003 x152004 x153000 x153001 x153002 x153003 x153004) else (hearsaylaw02_TermOrder.j1 k false x151000 x151001 x151002 x151003 x151004 x152000 x152001 x152002 x152003 x152004 x153000 x153001 x153002 x153003 x153004)) else (hearsaylaw02_TermOrder.j1 k false x151000 x151001 x151002 x151003 x151004 x152000 x152001 x152002 x152003 x152004 x153000 x153001 x153002 x153003 x153004))) else (if x7 < 0 then (if x8 ≤ 0 then (hearsaylaw02_TermOrder.j1 k (decide (x9 ≥ 0)) x151000 x151001 x151002 x151003 x151004 x152000 x152001 x152002 x152003 x152004 x153000 x153001 x153002 x153003 x153004) else (hearsaylaw02_TermOrder.j1 k false x151000 x151001 x151002 x151003 x151004 x152000 x152001 x152002 x152003 x152004 x153000 x153001 x153002 x153003 x153004)) else (hearsaylaw02_TermOrder.j1 k false x151000 x151001 x151002 x151003 x151004 x152000 x152001 x152002 x152003 x152004 x153000 x153001 x153002 x153003 x153004))) else (if x7 < 0 then (if x8 ≤ 0 then (hearsaylaw02_TermOrder.j1 k (decide (x9 ≥ 0)) x151000 x151001 x151002 x151003 x151004 x152000 x152001 x152002 x152003 x152004 x153000 x153001 x153002 x153003 x153004) else (hearsaylaw02_TermOrder.j1 k false x151000 x151001 x151002 x151003 x151004 x152000 x152001 x152002 x152003 x152004 x153000 x153001 x153002 x153003 x153004)) else (hearsaylaw02_TermOrder.j1 k false x151000 x151001 x151002 x151003 x151004 x152000 x152001 x152002 x152003 x152004 x153000 x153001 x153002 x153003 x153004))))
def hearsaylaw02_TermOrder.j1 : Nat → Bool → Int → Int → ByteArray → ByteArray → List (S23) → Int → Int → ByteArray → ByteArray → List (S23) → Int → Int → ByteArray → ByteArray → List (S23) → Option (Bool)
  | 0, _, _, _, _, _, _, _, _, _, _, _, _, _, _, _, _ => none
  | k + 1, x79, x151000, x151001, x151002, x151003, x151004, x152000, x152001, x152002, x152003, x152004, x153000, x153001, x153002, x153003, x153004 => if x79 = true then (some false) else (hearsaylaw02_TermOrder.l0 k (([(⟨x151000, x151001, x151002⟩ : S23), (⟨x152000, x152001, x152002⟩ : S23), (⟨x153000, x153001, x153002⟩ : S23)] : List (S23))) 0 x151000 x151001 x151002 x151003 x151004)
def hearsaylaw02_TermOrder.l0 : Nat → List (S23) → Int → Int → Int → ByteArray → ByteArray → List (S23) → Option (Bool)
  | 0, _, _, _, _, _, _, _ => none
  | k + 1, x10, x11, x151000, x151001, x151002, x151003, x151004 => if x11 < 3 then (hearsaylaw02_TermOrder.l1 k x10 x11 0 x151000 x151001 x151002 x151003 x151004) else ((hearsaylaw02_first.f).bind fun t180 => (some t180))
def hearsaylaw02_TermOrder.l1 : Nat → List (S23) → Int → Int → Int → Int → ByteArray → ByteArray → List (S23) → Option (Bool)
  | 0, _, _, _, _, _, _, _, _ => none
  | k + 1, x10, x11, x12, x151000, x151001, x151002, x151003, x151004 => if x12 < 3 then (if 0 ≤ x11 then (if x11 < (x10.length : Int) then (if 0 ≤ x12 then (if x12 < (x10.length : Int) then ((term_CompareAtoms.f k 0 0 (⟨#[]⟩ : ByteArray) x151003 (([(⟨(rd_T23 x10 x11).f0, (rd_T23 x10 x11).f1, (rd_T23 x10 x11).f2⟩ : S23)] : List (S23))) 0 0 (⟨#[]⟩ : ByteArray) x151003 (([(⟨(rd_T23 x10 x12).f0, (rd_T23 x10 x12).f1, (rd_T23 x10 x12).f2⟩ : S23)] : List (S23)))).bind fun t171 => ((term_Compare.f k ((rd_T23 x10 x11).f0) ((rd_T23 x10 x11).f1) ((rd_T23 x10 x11).f2) ((rd_T23 x10 x12).f0) ((rd_T23 x10 x12).f1) ((rd_T23 x10 x12).f2)).bind fun t174 => (if t171 = t174 then ((term_Compare.f k ((rd_T23 x10 x11).f0) ((rd_T23 x10 x11).f1) ((rd_T23 x10 x11).f2) ((rd_T23 x10 x12).f0) ((rd_T23 x10 x12).f1) ((rd_T23 x10 x12).f2)).bind fun t177 => (hearsaylaw02_TermOrder.j4 k x10 x11 x12 ((t177 == 0) != (((rd_T23 x10 x11).f0) == ((rd_T23 x10 x12).f0) && (((rd_T23 x10 x11).f1) == ((rd_T23 x10 x12).f1) && ((((rd_T23 x10 x11).f2).toList) == (((rd_T23 x10 x12).f2).toList))))) x151000 x151001 x151002 x151003 x151004)) else (hearsaylaw02_TermOrder.j4 k x10 x11 x12 true x151000 x151001 x151002 x151003 x151004)))) else (none)) else (none)) else (none)) else (none)) else (hearsaylaw02_TermOrder.l0 k x10 (wrap64 (x11 + 1)) x151000 x151001 x151002 x151003 x151004)
def hearsaylaw02_TermOrder.j4 : Nat → List (S23) → Int → Int → Bool → Int → Int → ByteArray → ByteArray → List (S23) → Option (Bool)
  | 0, _, _, _, _, _, _, _, _, _ => none
  | k + 1, x10, x11, x12, x145, x151000, x151001, x151002, x151003, x151004 => if x145 = true then (some false) else (hearsaylaw02_TermOrder.l1 k x10 x11 (wrap64 (x12 + 1)) x151000 x151001 x151002 x151003 x151004)
end
def hearsaylaw02_TermOrder.f (k : Nat) (a0_0 : Int) (a0_1 : Int) (a0_2 : ByteArray) (a0_3 : ByteArray) (l0_4 : List (S23)) (a1_0 : Int) (a1_1 : Int) (a1_2 : ByteArray) (a1_3 : ByteArray) (l1_4 : List (S23)) (a2_0 : Int) (a2_1 : Int) (a2_2 : ByteArray) (a2_3 : ByteArray) (l2_4 : List (S23)) : Option (Bool) := (term_CompareAtoms.f k a0_0 a0_1 a0_2 a0_3 l0_4 a1_0 a1_1 a1_2 a1_3 l1_4).bind fun t153 => ((term_CompareAtoms.f k a1_0 a1_1 a1_2 a1_3 l1_4 a2_0 a2_1 a2_2 a2_3 l2_4).bind fun t154 => ((term_CompareAtoms.f k a0_0 a0_1 a0_2 a0_3 l0_4 a2_0 a2_1 a2_2 a2_3 l2_4).bind fun t155 => (if t153 < (-1) then (hearsaylaw02_TermOrder.j0 k t153 t154 t155 true a0_0 a0_1 a0_2 a0_3 l0_4 a1_0 a1_1 a1_2 a1_3 l1_4 a2_0 a2_1 a2_2 a2_3 l2_4) else (if t153 > 1 then (hearsaylaw02_TermOrder.j0 k t153 t154 t155 true a0_0 a0_1 a0_2 a0_3 l0_4 a1_0 a1_1 a1_2 a1_3 l1_4 a2_0 a2_1 a2_2 a2_3 l2_4) else ((term_CompareAtoms.f k a1_0 a1_1 a1_2 a1_3 l1_4 a0_0 a0_1 a0_2 a0_3 l0_4).bind fun t156 => (if t156 = (wrap64 (-t153)) then ((hearsaylaw02_same.f k a0_0 a0_1 a0_2 a0_3 l0_4 a1_0 a1_1 a1_2 a1_3 l1_4).bind fun t157 => (hearsaylaw02_TermOrder.j0 k t153 t154 t155 ((t153 == 0) != t157) a0_0 a0_1 a0_2 a0_3 l0_4 a1_0 a1_1 a1_2 a1_3 l1_4 a2_0 a2_1 a2_2 a2_3 l2_4)) else (hearsaylaw02_TermOrder.j0 k t153 t154 t155 true a0_0 a0_1 a0_2 a0_3 l0_4 a1_0 a1_1 a1_2 a1_3 l1_4 a2_0 a2_1 a2_2 a2_3 l2_4)))))))
theorem hearsaylaw02_TermOrder.mono_l : ∀ k, (∀ y0 y1 y2 y3 y4 y5 y6 y7 y8 y9 y10 y11 y12 y13 y14 y15 y16 y17 y18, LeO (hearsaylaw02_TermOrder.j0 k y0 y1 y2 y3 y4 y5 y6 y7 y8 y9 y10 y11 y12 y13 y14 y15 y16 y17 y18) (hearsaylaw02_TermOrder.j0 (k + 1) y0 y1 y2 y3 y4 y5 y6 y7 y8 y9 y10 y11 y12 y13 y14 y15 y16 y17 y18)) ∧ (∀ y0 y1 y2 y3 y4 y5 y6 y7 y8 y9 y10 y11 y12 y13 y14 y15, LeO (hearsaylaw02_TermOrder.j1 k y0 y1 y2 y3 y4 y5 y6 y7 y8 y9 y10 y11 y12 y13 y14 y15) (hearsaylaw02_TermOrder.j1 (k + 1) y0 y1 y2 y3 y4 y5 y6 y7 y8 y9 y10 y11 y12 y13 y14 y15)) ∧ (∀ y0 y1 y2 y3 y4 y5 y6, LeO (hearsaylaw02_TermOrder.l0 k y0 y1 y2 y3 y4 y5 y6) (hearsaylaw02_TermOrder.l0 (k + 1) y0 y1 y2 y3 y4 y5 y6)) ∧ (∀ y0 y1 y2 y3 y4 y5 y6 y7, LeO (hearsaylaw02_TermOrder.l1 k y0 y1 y2 y3 y4 y5 y6 y7) (hearsaylaw02_TermOrder.l1 (k + 1) y0 y1 y2 y3 y4 y5 y6 y7)) ∧ (∀ y0 y1 y2 y3 y4 y5 y6 y7 y8, LeO (hearsaylaw02_TermOrder.j4 k y0 y1 y2 y3 y4 y5 y6 y7 y8) (hearsaylaw02_TermOrder.j4 (k + 1) y0 y1 y2 y3 y4 y5 y6 y7 y8))
  | 0 => ⟨fun _ _ _ _ _ _ _ _ _ _ _ _ _ _ _ _ _ _ _ r h => by simp [hearsaylaw02_TermOrder.j0] at h, fun _ _ _ _ _ _ _ _ _ _ _ _ _ _ _ _ r h => by simp [hearsaylaw02_TermOrder.j1] at h, fun _ _ _ _ _ _ _ r h => by simp [hearsaylaw02_TermOrder.l0] at h, fun _ _ _ _ _ _ _ _ r h => by simp [hearsaylaw02_TermOrder.l1] at h, fun _ _ _ _ _ _ _ _ _ r h => by simp [hearsaylaw02_TermOrder.j4] at h⟩
  | k + 1 => by
    obtain ⟨ih0, ih1, ih2, ih3, ih4⟩ := hearsaylaw02_TermOrder.mono_l k
    refine ⟨?_, ?_, ?_, ?_, ?_⟩
    · intro y0 y1 y2 y3 y4 y5 y6 y7 y8 y9 y10 y11 y12 y13 y14 y15 y16 y17 y18
      unfold hearsaylaw02_TermOrder.j0
      repeat' first
      | (with_reducible exact ih0 _ _ _ _ _ _ _ _ _ _ _ _ _ _ _ _ _ _ _)
      | (with_reducible exact ih1 _ _ _ _ _ _ _ _ _ _ _ _ _ _ _ _)
      | (with_reducible exact ih2 _ _ _ _ _ _ _)
      | (with_reducible exact ih3 _ _ _ _ _ _ _ _)
      | (with_reducible exact ih4 _ _ _ _ _ _ _ _ _)
      | (with_reducible exact hearsaylaw02_same.mono _ _ _ _ _ _ _ _ _ _ _)
      | (with_reducible exact term_Compare.mono _ _ _ _ _ _ _)
      | (with_reducible exact term_CompareAtoms.mono _ _ _ _ _ _ _ _ _ _ _)
      | (with_reducible exact LeO.refl _)
      | (with_reducible exact LeO.none _)
      | (with_reducible refine LeO.ite ?_ ?_)
      | (with_reducible refine LeO.bind ?_ (fun _ => ?_))
      | exact ih0 _ _ _ _ _ _ _ _ _ _ _ _ _ _ _ _ _ _ _
      | exact ih1 _ _ _ _ _ _ _ _ _ _ _ _ _ _ _ _
      | exact ih2 _ _ _ _ _ _ _
      | exact ih3 _ _ _ _ _ _ _ _
      | exact ih4 _ _ _ _ _ _ _ _ _
      | exact hearsaylaw02_same.mono _ _ _ _ _ _ _ _ _ _ _
      | exact term_Compare.mono _ _ _ _ _ _ _
      | exact term_CompareAtoms.mono _ _ _ _ _ _ _ _ _ _ _
      | exact LeO.none _
      | refine LeO.ite ?_ ?_
      | refine LeO.bind ?_ (fun _ => ?_)
    · intro y0 y1 y2 y3 y4 y5 y6 y7 y8 y9 y10 y11 y12 y13 y14 y15
      unfold hearsaylaw02_TermOrder.j1
      repeat' first
      | (with_reducible exact ih0 _ _ _ _ _ _ _ _ _ _ _ _ _ _ _ _ _ _ _)
      | (with_reducible exact ih1 _ _ _ _ _ _ _ _ _ _ _ _ _ _ _ _)
      | (with_reducible exact ih2 _ _ _ _ _ _ _)
      | (with_reducible exact ih3 _ _ _ _ _ _ _ _)
      | (with_reducible exact ih4 _ _ _ _ _ _ _ _ _)
      | (with_reducible exact hearsaylaw02_same.mono _ _ _ _ _ _ _ _ _ _ _)
      | (with_reducible exact term_Compare.mono _ _ _ _ _ _ _)
      | (with_reducible exact term_CompareAtoms.mono _ _ _ _ _ _ _ _ _ _ _)
      | (with_reducible exact LeO.refl _)
      | (with_reducible exact LeO.none _)
      | (with_reducible refine LeO.ite ?_ ?_)
      | (with_reducible refine LeO.bind ?_ (fun _ => ?_))
      | exact ih0 _ _ _ _ _ _ _ _ _ _ _ _ _ _ _ _ _ _ _
      | exact ih1 _ _ _ _ _ _ _ _ _ _ _ _ _ _ _ _
      | exact ih2 _ _ _ _ _ _ _
      | exact ih3 _ _ _ _ _ _ _ _
      | exact ih4 _ _ _ _ _ _ _ _ _
      | exact hearsaylaw02_same.mono _ _ _ _ _ _ _ _ _ _ _
      | exact term_Compare.mono _ _ _ _ _ _ _
      | exact term_CompareAtoms.mono _ _ _ _ _ _ _ _ _ _ _
      | exact LeO.none _
      | refine LeO.ite ?_ ?_
      | refine LeO.bind ?_ (fun _ => ?_)
    · intro y0 y1 y2 y3 y4 y5 y6
      unfold hearsaylaw02_TermOrder.l0
      repeat' first
      | (with_reducible exact ih0 _ _ _ _ _ _ _ _ _ _ _ _ _ _ _ _ _ _ _)
      | (with_reducible exact ih1 _ _ _ _ _ _ _ _ _ _ _ _ _ _ _ _)
      | (with_reducible exact ih2 _ _ _ _ _ _ _)
      | (with_reducible exact ih3 _ _ _ _ _ _ _ _)
      | (with_reducible exact ih4 _ _ _ _ _ _ _ _ _)
      | (with_reducible exact hearsaylaw02_same.mono _ _ _ _ _ _ _ _ _ _ _)
      | (with_reducible exact term_Compare.mono _ _ _ _ _ _ _)
      | (with_reducible exact term_CompareAtoms.mono _ _ _ _ _ _ _ _ _ _ _)
      | (with_reducible exact LeO.refl _)
      | (with_reducible exact LeO.none _)
      | (with_reducible refine LeO.ite ?_ ?_)
      | (with_reducible refine LeO.bind ?_ (fun _ => ?_))
      | exact ih0 _ _ _ _ _ _ _ _ _ _ _ _ _ _ _ _ _ _ _
      | exact ih1 _ _ _ _ _ _ _ _ _ _ _ _ _ _ _ _
      | exact ih2 _ _ _ _ _ _ _
      | exact ih3 _ _ _ _ _ _ _ _
      | exact ih4 _ _ _ _ _ _ _ _ _
      | exact hearsaylaw02_same.mono _ _ _ _ _ _ _ _ _ _ _
      | exact term_Compare.mono _ _ _ _ _ _ _
      | exact term_CompareAtoms.mono _ _ _ _ _ _ _ _ _ _ _
      | exact LeO.none _
      | refine LeO.ite ?_ ?_
      | refine LeO.bind ?_ (fun _ => ?_)
    · intro y0 y1 y2 y3 y4 y5 y6 y7
      unfold hearsaylaw02_TermOrder.l1
      repeat' first
      | (with_reducible exact ih0 _ _ _ _ _ _ _ _ _ _ _ _ _ _ _ _ _ _ _)
      | (with_reducible exact ih1 _ _ _ _ _ _ _ _ _ _ _ _ _ _ _ _)
      | (with_reducible exact ih2 _ _ _ _ _ _ _)
      | (with_reducible exact ih3 _ _ _ _ _ _ _ _)
      | (with_reducible exact ih4 _ _ _ _ _ _ _ _ _)
      | (with_reducible exact hearsaylaw02_same.mono _ _ _ _ _ _ _ _ _ _ _)
      | (with_reducible exact term_Compare.mono _ _ _ _ _ _ _)
      | (with_reducible exact term_CompareAtoms.mono _ _ _ _ _ _ _ _ _ _ _)
      | (with_reducible exact LeO.refl _)
      | (with_reducible exact LeO.none _)
      | (with_reducible refine LeO.ite ?_ ?_)
      | (with_reducible refine LeO.bind ?_ (fun _ => ?_))
      | exact ih0 _ _ _ _ _ _ _ _ _ _ _ _ _ _ _ _ _ _ _
      | exact ih1 _ _ _ _ _ _ _ _ _ _ _ _ _ _ _ _
      | exact ih2 _ _ _ _ _ _ _
      | exact ih3 _ _ _ _ _ _ _ _
      | exact ih4 _ _ _ _ _ _ _ _ _
      | exact hearsaylaw02_same.mono _ _ _ _ _ _ _ _ _ _ _
      | exact term_Compare.mono _ _ _ _ _ _ _
      | exact term_CompareAtoms.mono _ _ _ _ _ _ _ _ _ _ _
      | exact LeO.none _
      | refine LeO.ite ?_ ?_
      | refine LeO.bind ?_ (fun _ => ?_)
    · intro y0 y1 y2 y3 y4 y5 y6 y7 y8
      unfold hearsaylaw02_TermOrder.j4
      repeat' first
      | (with_reducible exact ih0 _ _ _ _ _ _ _ _ _ _ _ _ _ _ _ _ _ _ _)
      | (with_reducible exact ih1 _ _ _ _ _ _ _ _ _ _ _ _ _ _ _ _)
      | (with_reducible exact ih2 _ _ _ _ _ _ _)
      | (with_reducible exact ih3 _ _ _ _ _ _ _ _)
      | (with_reducible exact ih4 _ _ _ _ _ _ _ _ _)
      | (with_reducible exact hearsaylaw02_same.mono _ _ _ _ _ _ _ _ _ _ _)
      | (with_reducible exact term_Compare.mono _ _ _ _ _ _ _)
      | (with_reducible exact term_CompareAtoms.mono _ _ _ _ _ _ _ _ _ _ _)
      | (with_reducible exact LeO.refl _)
      | (with_reducible exact LeO.none _)
      | (with_reducible refine LeO.ite ?_ ?_)
      | (with_reducible refine LeO.bind ?_ (fun _ => ?_))
      | exact ih0 _ _ _ _ _ _ _ _ _ _ _ _ _ _ _ _ _ _ _
      | exact ih1 _ _ _ _ _ _ _ _ _ _ _ _ _ _ _ _
      | exact ih2 _ _ _ _ _ _ _
      | exact ih3 _ _ _ _ _ _ _ _
      | exact ih4 _ _ _ _ _ _ _ _ _
      | exact hearsaylaw02_same.mono _ _ _ _ _ _ _ _ _ _ _
      | exact term_Compare.mono _ _ _ _ _ _ _
      | exact term_CompareAtoms.mono _ _ _ _ _ _ _ _ _ _ _
      | exact LeO.none _
      | refine LeO.ite ?_ ?_
      | refine LeO.bind ?_ (fun _ => ?_)
theorem hearsaylaw02_TermOrder.mono : ∀ a0 a1 a2 a3 a4 a5 a6 a7 a8 a9 a10 a11 a12 a13 a14 k, LeO (hearsaylaw02_TermOrder.f k a0 a1 a2 a3 a4 a5 a6 a7 a8 a9 a10 a11 a12 a13 a14) (hearsaylaw02_TermOrder.f (k + 1) a0 a1 a2 a3 a4 a5 a6 a7 a8 a9 a10 a11 a12 a13 a14) := by
  intro a0 a1 a2 a3 a4 a5 a6 a7 a8 a9 a10 a11 a12 a13 a14 k
  obtain ⟨ih0, ih1, ih2, ih3, ih4⟩ := hearsaylaw02_TermOrder.mono_l k
  unfold hearsaylaw02_TermOrder.f
  repeat' first
      | (with_reducible exact ih0 _ _ _ _ _ _ _ _ _ _ _ _ _ _ _ _ _ _ _)
      | (with_reducible exact ih1 _ _ _ _ _ _ _ _ _ _ _ _ _ _ _ _)
      | (with_reducible exact ih2 _ _ _ _ _ _ _)
      | (with_reducible exact ih3 _ _ _ _ _ _ _ _)
      | (with_reducible exact ih4 _ _ _ _ _ _ _ _ _)
      | (with_reducible exact hearsaylaw02_same.mono _ _ _ _ _ _ _ _ _ _ _)
      | (with_reducible exact term_Compare.mono _ _ _ _ _ _ _)
      | (with_reducible exact term_CompareAtoms.mono _ _ _ _ _ _ _ _ _ _ _)
      | (with_reducible exact LeO.refl _)
      | (with_reducible exact LeO.none _)
      | (with_reducible refine LeO.ite ?_ ?_)
      | (with_reducible refine LeO.bind ?_ (fun _ => ?_))
      | exact ih0 _ _ _ _ _ _ _ _ _ _ _ _ _ _ _ _ _ _ _
      | exact ih1 _ _ _ _ _ _ _ _ _ _ _ _ _ _ _ _
      | exact ih2 _ _ _ _ _ _ _
      | exact ih3 _ _ _ _ _ _ _ _
      | exact ih4 _ _ _ _ _ _ _ _ _
      | exact hearsaylaw02_same.mono _ _ _ _ _ _ _ _ _ _ _
      | exact term_Compare.mono _ _ _ _ _ _ _
      | exact term_CompareAtoms.mono _ _ _ _ _ _ _ _ _ _ _
      | exact LeO.none _
      | refine LeO.ite ?_ ?_
      | refine LeO.bind ?_ (fun _ => ?_)
def hearsaylaw02_TermOrder.T15 : Bool × List (List Nat × List Nat) := (true, [([], []), ([0], [0]), ([], []), ([], []), ([2, 3], [2, 3]), ([4], [4]), ([5], [5]), ([1, 6], [1, 6]), ([], []), ([8, 7, 0, 1, 2, 3, 4, 5, 6, 7, 8], [7, 8])])
def hearsaylaw02_TermOrder.B15 : List Nat := [0, 1, 0, 0, 12, 28, 60, 127, 0, 511]
theorem hearsaylaw02_TermOrder.tab15 : rtab .any (opsOf Try.f4 15) = hearsaylaw02_TermOrder.T15 := by kernel_rfl
theorem hearsaylaw02_TermOrder.bits15 : waitsOk hearsaylaw02_TermOrder.T15.2 hearsaylaw02_TermOrder.B15 = true := by kernel_rfl
def hearsaylaw02_TermOrder.T16 : Bool × List (List Nat × List Nat) := (true, [([], []), ([0], [0]), ([], []), ([], []), ([2, 3], [2, 3]), ([4], [4]), ([5], [5]), ([1, 6], [1, 6]), ([], []), ([8, 7, 0, 1, 2, 3, 4, 5, 6, 7, 8], [7, 8])])
def hearsaylaw02_TermOrder.B16 : List Nat := [0, 1, 0, 0, 12, 28, 60, 127, 0, 511]
theorem hearsaylaw02_TermOrder.tab16 : rtab .any (opsOf Try.f4 16) = hearsaylaw02_TermOrder.T16 := by kernel_rfl
theorem hearsaylaw02_TermOrder.bits16 : waitsOk hearsaylaw02_TermOrder.T16.2 hearsaylaw02_TermOrder.B16 = true := by kernel_rfl
def hearsaylaw02_TermOrder.T17 : Bool × List (List Nat × List Nat) := (true, [([], []), ([], []), ([0, 1], [0, 1]), ([], []), ([], []), ([3, 4], [3, 4]), ([5], [5]), ([], []), ([], []), ([7, 8], [7, 8]), ([9], [9]), ([6, 10, 2], [6, 10]), ([2, 11], [2, 11]), ([12, 11], [12]), ([13], [13]), ([13], [13]), ([14, 15, 13], [13, 14, 15]), ([16, 13], [13, 16]), ([13], [13]), ([13], [13]), ([18, 19, 13], [13, 18, 19]), ([20, 13], [13, 20]), ([17, 21, 13, 13], [13, 17, 21]), ([22, 13], [13, 22]), ([13], [13]), ([13], [13]), ([24, 25, 13], [13, 24, 25]), ([26, 13], [13, 26]), ([13], [13]), ([13], [13]), ([28, 29, 13], [13, 28, 29]), ([30, 13], [13, 30]), ([27, 31, 13], [13, 27, 31]), ([23, 32, 13], [13, 23, 32]), ([13, 33], [13, 33])])
def hearsaylaw02_TermOrder.B17 : List Nat := [0, 0, 3, 0, 0, 24, 56, 0, 0, 384, 896, 2047, 4095, 8191, 16383, 16383, 65535, 131071, 16383, 16383, 802815, 1851391, 4194303, 8388607, 16383, 16383, 50348031, 117456895, 16383, 16383, 805322751, 1879064575, 4278206463, 8589934591, 17179869183]
theorem hearsaylaw02_TermOrder.tab17 : rtab .any (opsOf Try.f4 17) = hearsaylaw02_TermOrder.T17 := by kernel_rfl
theorem hearsaylaw02_TermOrder.bits17 : waitsOk hearsaylaw02_TermOrder.T17.2 hearsaylaw02_TermOrder.B17 = true := by kernel_rfl
end Go.Proofs.Ytnomgmlfagiffaa.T
