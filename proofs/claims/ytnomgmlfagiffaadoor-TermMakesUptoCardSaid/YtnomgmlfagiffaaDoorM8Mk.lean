/- PureB; Ord; T7; PureA; PureM; PureS; PureBA; PureRM; PureRL; GFunc; GFv; PureAt; PureFirst; PureMk: texts of this claim, laid together. -/
import Derived.Test.YtnomgmlfagiffaaDoorM3Mk
import Derived.Test.YtnomgmlfagiffaaDoorM0Mk
import Derived.Test.YtnomgmlfagiffaaDoorM5Mk
import Derived.Lib.Bytealg
import Derived.Lib.Small
import Derived.Test.YtnomgmlfagiffaaDoorM2Mk
import Derived.Below
import Derived.WalkKit
import Derived.Lib.Walk
import Derived.Deep.LoopGhost
import Derived.Shelf.Abstract
import Derived.Deep.Draws
import Derived.Test.YtnomgmlfagiffaaDoorM1Mk
import Derived.Test.YtnomgmlfagiffaaDoorM4Mk
import Derived.Test.YtnomgmlfagiffaaDoorM6Mk
/- Look and Become in closed form: the program's and the document's are the same. -/
set_option linter.unusedVariables false
set_option linter.unusedSimpArgs false
namespace Go.Proofs.YtnomgmlfagiffaaDoor.T
open Go.RowKit Go.Lib Go.Proofs.YtnomgmlfagiffaaDoorW.PrintWords
def lookR (s : List Bd) (v : Int) : Int × Int × ByteArray × Bool := match getM s v with | some t => (t.f0, t.f1, t.f2, true) | none => (0, 0, ⟨#[]⟩, false)
theorem getM_cons (b : Bd) (s : List Bd) (v : Int) : getM (b :: s) v = if b.f0 = v then some b.f1 else getM s v := by
  unfold getM
  rw [List.find?_cons]
  by_cases h : b.f0 = v
  · simp [h]
  · rw [show (b.f0 == v) = false by simpa using h, if_neg h]
theorem look_f (s : List Bd) (v : Int) (ls : s.length < smallN) : ∀ k, s.length + 1 ≤ k → term_Look.f k s v = some (lookR s v) := by
  intro k hk
  unfold term_Look.f
  suffices h : ∀ (n i k : Nat), s.length = i + n → n + 1 ≤ k → term_Look.l0 k v s (s.length : Int) (i : Int) = some (lookR (s.drop i) v) from h s.length 0 k (by omega) hk
  intro n
  induction n with
  | zero =>
    intro i k hi hk
    obtain ⟨k, rfl⟩ : ∃ m, k = m + 1 := ⟨k - 1, by omega⟩
    rw [term_Look.l0, if_neg (by omega), List.drop_eq_nil_of_le (by omega)]
    rfl
  | succ n ih =>
    intro i k hi hk
    obtain ⟨k, rfl⟩ : ∃ m, k = m + 1 := ⟨k - 1, by omega⟩
    rw [term_Look.l0, if_pos (by omega), if_pos (by omega), if_pos (by omega), rd_at44 _ _ (by omega), wrap_succ i (by omega), ih (i + 1) k (by omega) (by omega), List.drop_eq_getElem_cons (show i < s.length by omega)]
    unfold lookR
    rw [getM_cons]
    by_cases h : s[i].f0 = v
    · rw [if_pos h, if_pos h]
    · rw [if_neg h, if_neg h]
def becomeT (s : List Bd) (t : Tm) : Tm := if isVar t then (getM s t.f1).getD t else t
theorem become_f (s : List Bd) (t : Tm) (ls : s.length < smallN) (k : Nat) (hk : s.length + 1 ≤ k) : term_become.f k s t.f0 t.f1 t.f2 = some ((becomeT s t).f0, (becomeT s t).f1, (becomeT s t).f2) := by
  unfold term_become.f becomeT
  rw [var_f]
  cases isVar t with
  | false => simp
  | true =>
    simp only [Option.bind_some, if_true, look_f s t.f1 ls k hk, lookR]
    cases getM s t.f1 <;> simp
end Go.Proofs.YtnomgmlfagiffaaDoor.T
/- Orders: plain lemmas. -/
namespace Go.Proofs.YtnomgmlfagiffaaDoor.Hs
open Go.Lib

/-- A comparison that is a total order: -1, 0, 1. -/
structure Cmp {α : Type} (c : α → α → Int) : Prop where
  rng : ∀ a b, c a b = -1 ∨ c a b = 0 ∨ c a b = 1
  anti : ∀ a b, c b a = - c a b
  eq : ∀ a b, c a b = 0 ↔ a = b
  trans : ∀ a b d, c a b < 0 → c b d < 0 → c a d < 0

namespace Cmp
variable {α : Type} {c : α → α → Int}
theorem le_trans (h : Cmp c) {a b d : α} (h1 : c a b ≤ 0) (h2 : c b d ≤ 0) : c a d ≤ 0 := by
  by_cases e1 : c a b = 0
  · rw [(h.eq a b).1 e1]; exact h2
  · by_cases e2 : c b d = 0
    · rw [← (h.eq b d).1 e2]; exact h1
    · have := h.trans a b d (by omega) (by omega); omega
end Cmp

/-- cmp.Or -/
def orI (x y : Int) : Int := if x ≠ 0 then x else y

/-- slices.CompareFunc -/
def cmpList {α : Type} (c : α → α → Int) : List α → List α → Int
  | [], [] => 0
  | [], _ :: _ => -1
  | _ :: _, [] => 1
  | a :: aa, b :: bs => if c a b ≠ 0 then c a b else cmpList c aa bs

theorem Cmp.list {α : Type} {c : α → α → Int} (h : Cmp c) : Cmp (cmpList c) where
  rng a := by
    induction a with
    | nil => intro b; cases b <;> simp [cmpList]
    | cons x a ih =>
      intro b
      cases b with
      | nil => simp [cmpList]
      | cons y b => unfold cmpList; split; · exact h.rng x y
                    · exact ih b
  anti a := by
    induction a with
    | nil => intro b; cases b <;> simp [cmpList]
    | cons x a ih =>
      intro b
      cases b with
      | nil => simp [cmpList]
      | cons y b =>
        unfold cmpList
        rw [h.anti x y, ih b]
        split <;> split <;> omega
  eq a := by
    induction a with
    | nil => intro b; cases b <;> simp [cmpList]
    | cons x a ih =>
      intro b
      cases b with
      | nil => simp [cmpList]
      | cons y b =>
        unfold cmpList
        by_cases e : c x y = 0
        · rw [if_neg (by simp [e]), ih b, (h.eq x y).1 e]; simp
        · rw [if_pos (by simpa using e)]
          constructor
          · intro e'; exact absurd e' e
          · intro e'; injection e' with e1 _; exact absurd ((h.eq x y).2 e1) e
  trans a := by
    induction a with
    | nil => intro b d; cases b <;> cases d <;> simp [cmpList]
    | cons x a ih =>
      intro b d
      cases b with
      | nil => simp [cmpList]
      | cons y b =>
        cases d with
        | nil => simp [cmpList]
        | cons z d =>
          unfold cmpList
          intro p q
          by_cases h1 : c x y = 0
          · have e1 := (h.eq _ _).1 h1
            rw [if_neg (by simp [h1])] at p
            by_cases h2 : c y z = 0
            · rw [if_neg (by simp [h2])] at q
              rw [e1, if_neg (by simp [h2])]
              exact ih b d p q
            · rw [if_pos (by simpa using h2)] at q
              rw [e1, if_pos (by simpa using h2)]; exact q
          · rw [if_pos (by simpa using h1)] at p
            by_cases h2 : c y z = 0
            · rw [← (h.eq _ _).1 h2, if_pos (by simpa using h1)]; exact p
            · rw [if_pos (by simpa using h2)] at q
              have := h.trans _ _ _ p q
              rw [if_pos (by omega)]; exact this

end Go.Proofs.YtnomgmlfagiffaaDoor.Hs
-- By a program of this session (wip/tools/myprint.py), out of the translation.
namespace Go.Proofs.YtnomgmlfagiffaaDoor.T
open Go.RowKit Go.Proofs.YtnomgmlfagiffaaDoorW.PrintWords Go.Proofs.YtnomgmlfagiffaaDoorW.PrintLast Go.Proofs.YtnomgmlfagiffaaDoorW.PrintMore
attribute [local go_sem] max2_int min2_int max_two min_two max_three min_three max_four min_four   -- for this text's walks alone
set_option linter.unusedVariables false
set_option linter.unusedSimpArgs false

def term_Compare.f (k : Nat) (a0_0 : Int) (a0_1 : Int) (a0_2 : ByteArray) (a1_0 : Int) (a1_1 : Int) (a1_2 : ByteArray) : Option (Int) := (cmp_Compare_int.f a0_0 a1_0).bind fun t330 => ((cmp_Compare_int.f a0_1 a1_1).bind fun t331 => ((strings_Compare.f a0_2 a1_2).bind fun t332 => ((cmp_Or_int.f k (([t330, t331, t332] : List Int))).bind fun t336 => (some t336))))
def term_Compare.T1 : Bool × List (List Nat × List Nat) := (true, [([], []), ([0], [0]), ([], []), ([2], [2]), ([1, 3], [1, 3]), ([], []), ([5], [5]), ([], []), ([7], [7]), ([6, 8, 4], [6, 8]), ([], []), ([10], [10]), ([], []), ([12], [12]), ([11, 13, 9], [11, 13]), ([4, 9, 14], [4, 9, 14]), ([15, 14], [15]), ([16, 16, 0, 1, 2, 3, 4, 5, 6, 7, 8, 9, 10, 11, 12, 13, 14, 15, 16], [16])])
def term_Compare.B1 : List Nat := [0, 1, 0, 4, 15, 0, 32, 0, 128, 511, 0, 1024, 0, 4096, 16383, 32767, 65535, 131071]
theorem term_Compare.tab1 : rtab .any (opsOf Tryd.f67 1) = term_Compare.T1 := by kernel_rfl
theorem term_Compare.bits1 : waitsOk term_Compare.T1.2 term_Compare.B1 = true := by kernel_rfl
set_option maxHeartbeats 8000000 in
set_option maxRecDepth 100000 in
theorem term_Compare.calls (k : Nat) (a0_0 : Int) (a0_1 : Int) (a0_2 : ByteArray) (a1_0 : Int) (a1_1 : Int) (a1_2 : ByteArray) (r : Int) (w : World) (h : term_Compare.f k a0_0 a0_1 a0_2 a1_0 a1_1 a1_2 = some r) :
    Calls Tryd.prog 67 #[.agg #[.int .i64 a0_0, .int .i64 a0_1, .string a0_2], .agg #[.int .i64 a1_0, .int .i64 a1_1, .string a1_2]] w fun e w' => e = .returned (.int .i64 r) ∧ Below w.heap.size w w' := by
  have hu23 := Tryd.underlying23
  have HB := Aside0.mk (Below.refl w.heap.size w)
  have H : ((cmp_Compare_int.f a0_0 a1_0).bind fun t330 => ((cmp_Compare_int.f a0_1 a1_1).bind fun t331 => ((strings_Compare.f a0_2 a1_2).bind fun t332 => ((cmp_Or_int.f k (([t330, t331, t332] : List Int))).bind fun t336 => (some t336))))) = some r := h
  clear h
  replace H := Option.bind_eq_some_iff.mp H
  obtain ⟨t330, A30, H⟩ := H
  replace H : ((cmp_Compare_int.f a0_1 a1_1).bind fun t331 => ((strings_Compare.f a0_2 a1_2).bind fun t332 => ((cmp_Or_int.f k (([t330, t331, t332] : List Int))).bind fun t336 => (some t336)))) = some r := H
  have A3 := Aside0.mk A30
  clear A30
  replace H := Option.bind_eq_some_iff.mp H
  obtain ⟨t331, A40, H⟩ := H
  replace H : ((strings_Compare.f a0_2 a1_2).bind fun t332 => ((cmp_Or_int.f k (([t330, t331, t332] : List Int))).bind fun t336 => (some t336))) = some r := H
  have A4 := Aside0.mk A40
  clear A40
  replace H := Option.bind_eq_some_iff.mp H
  obtain ⟨t332, A50, H⟩ := H
  replace H : ((cmp_Or_int.f k (([t330, t331, t332] : List Int))).bind fun t336 => (some t336)) = some r := H
  have A5 := Aside0.mk A50
  clear A50
  obtain ⟨y333, hy333⟩ : ∃ y_ : List Int, y_ = (([t330, t331, t332] : List Int)) := ⟨_, rfl⟩
  replace H : ((cmp_Or_int.f k y333).bind fun t336 => (some t336)) = some r := by first | (rw [hy333]; with_reducible exact H) | (have H2_ := (Option.bind_some _ _).symm.trans H; rw [hy333]; with_reducible exact H2_) | (have H2_ := (Option.bind_some _ _).symm.trans H; with_reducible exact H2_) | with_reducible exact H | (rw [hy333]; exact H) | exact H
  have Ny333 := Aside0.mk hy333
  clear hy333
  replace H := Option.bind_eq_some_iff.mp H
  obtain ⟨t336, A60, H⟩ := H
  replace H : (some t336) = some r := H
  have A6 := Aside0.mk A60
  clear A60
  obtain rfl := Option.some.inj H
  go_enter Tryd.func67, Tryd.ntmps67
  try go_wp2_with (first | ((with_reducible refine gate_dst (N := 2) rfl ?_); refine box_event ?hg (N := 2) ?hd (cs := #[.int .i64 a0_0, .int .i64 a0_1, .string a0_2]) (t := 23) ?hr ?_; (case hd => rfl); (case hg => rfl); (case hr => first | (go_simp; done) | (go_simp; rfl)); intro gb328 hg w7 hbox hb; have n0_ := Aside0.mk (below_step (by repeat (first | (with_reducible first | exact HB.out | apply below_alloc | apply pw_below_drewN | apply below_drew1) | exact HB.out)) hb); have n1_ := Aside0.mk (hbox); have n2_ := Aside0.mk ((by rw [hg]; exact (below_size (by repeat (first | (with_reducible first | exact HB.out | apply below_alloc | apply pw_below_drewN | apply below_drew1) | exact HB.out))) : w.heap.size ≤ gb328)); have n3_ := Aside0.mk ((by rw [hg]; exact (below_size (by repeat (first | (with_reducible first | exact HB.out | apply below_alloc | apply pw_below_drewN | apply below_drew1) | exact HB.out))) : w.heap.size ≤ gb328)); clear HB; have HB := n0_; have BK328 := n1_; have GW328 := n2_; have GE328 := n3_; clear n0_ n1_ n2_ n3_; clear hb hbox hg) | ((with_reducible refine gate_dst (N := 3) rfl ?_); refine box_event ?hg (N := 3) ?hd (cs := #[.int .i64 a1_0, .int .i64 a1_1, .string a1_2]) (t := 23) ?hr ?_; (case hd => rfl); (case hg => rfl); (case hr => first | (go_simp; done) | (go_simp; rfl)); intro gb329 hg w8 hbox hb; have n0_ := Aside0.mk (blk_below (g := gb328) (o := .cells #[.int .i64 a0_0, .int .i64 a0_1, .string a0_2] 23 (0, 0)) (by (with_reducible repeat (first | refine blk_drewN ?_ _ | refine blk_drew ?_ | refine blk_alloc ?_ _)); exact BK328.out) hb); have n1_ := Aside0.mk (below_step (by repeat (first | (with_reducible first | exact HB.out | apply below_alloc | apply pw_below_drewN | apply below_drew1 | refine below_set ?_ GE328.out) | exact HB.out)) hb); have n2_ := Aside0.mk (hbox); have n3_ := Aside0.mk ((by rw [hg]; exact (below_size (by repeat (first | (with_reducible first | exact HB.out | apply below_alloc | apply pw_below_drewN | apply below_drew1 | refine below_set ?_ GE328.out) | exact HB.out))) : w.heap.size ≤ gb329)); have n4_ := Aside0.mk ((by rw [hg]; exact (below_size (by repeat (first | (with_reducible first | exact HB.out | apply below_alloc | apply pw_below_drewN | apply below_drew1 | refine below_set ?_ GE328.out) | exact HB.out))) : w.heap.size ≤ gb329)); have n5_ := Aside0.mk ((by rw [hg]; exact Nat.ne_of_lt (blk_lt (g := gb328) (o := .cells #[.int .i64 a0_0, .int .i64 a0_1, .string a0_2] 23 (0, 0)) (by (with_reducible repeat (first | refine blk_drewN ?_ _ | refine blk_drew ?_ | refine blk_alloc ?_ _)); exact BK328.out)) : gb328 ≠ gb329)); have n6_ := Aside0.mk ((by rw [hg]; exact Nat.ne_of_gt (blk_lt (g := gb328) (o := .cells #[.int .i64 a0_0, .int .i64 a0_1, .string a0_2] 23 (0, 0)) (by (with_reducible repeat (first | refine blk_drewN ?_ _ | refine blk_drew ?_ | refine blk_alloc ?_ _)); exact BK328.out)) : gb329 ≠ gb328)); clear BK328; clear HB; have BK328 := n0_; have HB := n1_; have BK329 := n2_; have GW329 := n3_; have GE329 := n4_; have NB328_329 := n5_; have NB329_328 := n6_; clear n0_ n1_ n2_ n3_ n4_ n5_ n6_; clear hb hbox hg))
  have n0_ := Aside0.mk (blk_drew BK328.out)
  have n1_ := Aside0.mk (blk_drew BK329.out)
  have n2_ := Aside0.mk (below_drew1 HB.out)
  clear BK328
  clear BK329
  clear HB
  have BK328 := n0_
  have BK329 := n1_
  have HB := n2_
  clear n0_ n1_ n2_
  refine start_ (n := 18) (S := fun w' => w'.cell? ⟨gb328, 0, none⟩ = some (.int .i64 a0_0) ∧ w'.cell? ⟨gb328, 1, none⟩ = some (.int .i64 a0_1) ∧ w'.cell? ⟨gb328, 2, none⟩ = some (.string a0_2) ∧ w'.cell? ⟨gb329, 0, none⟩ = some (.int .i64 a1_0) ∧ w'.cell? ⟨gb329, 1, none⟩ = some (.int .i64 a1_1) ∧ w'.cell? ⟨gb329, 2, none⟩ = some (.string a1_2)) (ds := []) #[false, false, false, false, false, false, false, false, false, false, false, false, false, false, false, false, false, false] (by kernel_rfl) rfl rfl ⟨(blk_cell BK328.out 0).trans rfl, (blk_cell BK328.out 1).trans rfl, (blk_cell BK328.out 2).trans rfl, (blk_cell BK329.out 0).trans rfl, (blk_cell BK329.out 1).trans rfl, (blk_cell BK329.out 2).trans rfl⟩ (fun hHeld => ?_); refine with_tabW term_Compare.tab1 term_Compare.bits1 (fun HT_ HW_ => ?_)
  generalize w8.drew = w9 at BK328 BK329 HB hHeld ⊢
  refine pure_ (i := 0) (N := some 5) (v := ?_) (a' := ?_) #[true, false, false, false, false, false, false, false, false, false, false, false, false, false, false, false, false, false] rfl rfl (any_of HT_.out (by kernel_rfl)) (fun _ _ _ h => h) (Or.inl ⟨by rfl, ?_⟩) ?_ ?_
  rotate_left
  · intro w'
    go_simp
    with_reducible rfl
  rotate_left
  · simp only [Act.put, List.setIfInBounds_toArray, List.set_cons_zero, List.set_cons_succ, i64_w, i32_w]
    rfl
  refine pure_ (i := 2) (N := some 7) (v := ?_) (a' := ?_) #[true, false, true, false, false, false, false, false, false, false, false, false, false, false, false, false, false, false] rfl rfl (any_of HT_.out (by kernel_rfl)) (fun _ _ _ h => h) (Or.inl ⟨by rfl, ?_⟩) ?_ ?_
  rotate_left
  · intro w'
    go_simp
    with_reducible rfl
  rotate_left
  · simp only [Act.put, List.setIfInBounds_toArray, List.set_cons_zero, List.set_cons_succ, i64_w, i32_w]
    rfl
  refine pure_ (i := 5) (N := some 10) (v := ?_) (a' := ?_) #[true, false, true, false, false, true, false, false, false, false, false, false, false, false, false, false, false, false] rfl rfl (any_of HT_.out (by kernel_rfl)) (fun _ _ _ h => h) (Or.inl ⟨by rfl, ?_⟩) ?_ ?_
  rotate_left
  · intro w'
    go_simp
    with_reducible rfl
  rotate_left
  · simp only [Act.put, List.setIfInBounds_toArray, List.set_cons_zero, List.set_cons_succ, i64_w, i32_w]
    rfl
  refine pure_ (i := 7) (N := some 12) (v := ?_) (a' := ?_) #[true, false, true, false, false, true, false, true, false, false, false, false, false, false, false, false, false, false] rfl rfl (any_of HT_.out (by kernel_rfl)) (fun _ _ _ h => h) (Or.inl ⟨by rfl, ?_⟩) ?_ ?_
  rotate_left
  · intro w'
    go_simp
    with_reducible rfl
  rotate_left
  · simp only [Act.put, List.setIfInBounds_toArray, List.set_cons_zero, List.set_cons_succ, i64_w, i32_w]
    rfl
  refine pure_ (i := 10) (N := some 15) (v := ?_) (a' := ?_) #[true, false, true, false, false, true, false, true, false, false, true, false, false, false, false, false, false, false] rfl rfl (any_of HT_.out (by kernel_rfl)) (fun _ _ _ h => h) (Or.inl ⟨by rfl, ?_⟩) ?_ ?_
  rotate_left
  · intro w'
    go_simp
    with_reducible rfl
  rotate_left
  · simp only [Act.put, List.setIfInBounds_toArray, List.set_cons_zero, List.set_cons_succ, i64_w, i32_w]
    rfl
  refine pure_ (i := 12) (N := some 17) (v := ?_) (a' := ?_) #[true, false, true, false, false, true, false, true, false, false, true, false, true, false, false, false, false, false] rfl rfl (any_of HT_.out (by kernel_rfl)) (fun _ _ _ h => h) (Or.inl ⟨by rfl, ?_⟩) ?_ ?_
  rotate_left
  · intro w'
    go_simp
    with_reducible rfl
  rotate_left
  · simp only [Act.put, List.setIfInBounds_toArray, List.set_cons_zero, List.set_cons_succ, i64_w, i32_w]
    rfl
  refine take_ (i := 1) (N := some 6) (v := ?_) (a' := ?_) #[true, true, true, false, false, true, false, true, false, false, true, false, true, false, false, false, false, false] rfl rfl (take_ofW HT_.out HW_.out (by kernel_rfl)) (fun _ _ _ h => h) (Or.inl ⟨by rfl, ?_⟩) hHeld ?_ ?_
  rotate_left
  · rintro w' ⟨s0, s1, s2, s3, s4, s5⟩
    go_simp
    with_reducible rfl
  rotate_left
  · simp only [Act.put, List.setIfInBounds_toArray, List.set_cons_zero, List.set_cons_succ, i64_w, i32_w]
    rfl
  refine take_ (i := 3) (N := some 8) (v := ?_) (a' := ?_) #[true, true, true, true, false, true, false, true, false, false, true, false, true, false, false, false, false, false] rfl rfl (take_ofW HT_.out HW_.out (by kernel_rfl)) (fun _ _ _ h => h) (Or.inl ⟨by rfl, ?_⟩) hHeld ?_ ?_
  rotate_left
  · rintro w' ⟨s0, s1, s2, s3, s4, s5⟩
    go_simp
    with_reducible rfl
  rotate_left
  · simp only [Act.put, List.setIfInBounds_toArray, List.set_cons_zero, List.set_cons_succ, i64_w, i32_w]
    rfl
  refine take_ (i := 6) (N := some 11) (v := ?_) (a' := ?_) #[true, true, true, true, false, true, true, true, false, false, true, false, true, false, false, false, false, false] rfl rfl (take_ofW HT_.out HW_.out (by kernel_rfl)) (fun _ _ _ h => h) (Or.inl ⟨by rfl, ?_⟩) hHeld ?_ ?_
  rotate_left
  · rintro w' ⟨s0, s1, s2, s3, s4, s5⟩
    go_simp
    with_reducible rfl
  rotate_left
  · simp only [Act.put, List.setIfInBounds_toArray, List.set_cons_zero, List.set_cons_succ, i64_w, i32_w]
    rfl
  refine take_ (i := 8) (N := some 13) (v := ?_) (a' := ?_) #[true, true, true, true, false, true, true, true, true, false, true, false, true, false, false, false, false, false] rfl rfl (take_ofW HT_.out HW_.out (by kernel_rfl)) (fun _ _ _ h => h) (Or.inl ⟨by rfl, ?_⟩) hHeld ?_ ?_
  rotate_left
  · rintro w' ⟨s0, s1, s2, s3, s4, s5⟩
    go_simp
    with_reducible rfl
  rotate_left
  · simp only [Act.put, List.setIfInBounds_toArray, List.set_cons_zero, List.set_cons_succ, i64_w, i32_w]
    rfl
  refine take_ (i := 11) (N := some 16) (v := ?_) (a' := ?_) #[true, true, true, true, false, true, true, true, true, false, true, true, true, false, false, false, false, false] rfl rfl (take_ofW HT_.out HW_.out (by kernel_rfl)) (fun _ _ _ h => h) (Or.inl ⟨by rfl, ?_⟩) hHeld ?_ ?_
  rotate_left
  · rintro w' ⟨s0, s1, s2, s3, s4, s5⟩
    go_simp
    with_reducible rfl
  rotate_left
  · simp only [Act.put, List.setIfInBounds_toArray, List.set_cons_zero, List.set_cons_succ, i64_w, i32_w]
    rfl
  refine take_ (i := 13) (N := some 18) (v := ?_) (a' := ?_) #[true, true, true, true, false, true, true, true, true, false, true, true, true, true, false, false, false, false] rfl rfl (take_ofW HT_.out HW_.out (by kernel_rfl)) (fun _ _ _ h => h) (Or.inl ⟨by rfl, ?_⟩) hHeld ?_ ?_
  rotate_left
  · rintro w' ⟨s0, s1, s2, s3, s4, s5⟩
    go_simp
    with_reducible rfl
  rotate_left
  · simp only [Act.put, List.setIfInBounds_toArray, List.set_cons_zero, List.set_cons_succ, i64_w, i32_w]
    rfl
  refine one_ (i := 4) (N := some 9) #[true, true, true, true, true, true, true, true, true, false, true, true, true, true, false, false, false, false] rfl rfl (one_of HT_.out (by kernel_rfl)) (by decide) (fun K hK => ?_)
  refine goes_ Tryd.func76 (by kernel_rfl) rfl #[.int .i64 a0_0, .int .i64 a1_0] (by rfl) rfl rfl (by (try simp only [List.map_toArray, List.map_cons, List.map_nil]); first | done | rfl | (simp only [List.length_drop, List.length_take]; rfl)) ?_
  with_reducible refine (cmp_Compare_int.calls a0_0 a1_0 t330 _ A3.out).mono ?_
  rintro e w' ⟨rfl, ⟨nd, rfl⟩⟩
  refine ⟨_, rfl, ?_⟩
  refine hK.out _ _ ⟨(blk_cell BK328.out 0).trans rfl, (blk_cell BK328.out 1).trans rfl, (blk_cell BK328.out 2).trans rfl, (blk_cell BK329.out 0).trans rfl, (blk_cell BK329.out 1).trans rfl, (blk_cell BK329.out 2).trans rfl⟩ (fun hHeld => ?_)
  clear hK K
  refine norm_ (a' := ?_) ?_ ?_
  rotate_left
  · show Act.put _ (some 9) _ = _
    simp only [Act.put, List.setIfInBounds_toArray, List.set_cons_zero, List.set_cons_succ, i64_w, i32_w]
    rfl
  refine one_ (i := 9) (N := some 14) #[true, true, true, true, true, true, true, true, true, true, true, true, true, true, false, false, false, false] rfl rfl (one_of HT_.out (by kernel_rfl)) (by decide) (fun K hK => ?_)
  refine goes_ Tryd.func76 (by kernel_rfl) rfl #[.int .i64 a0_1, .int .i64 a1_1] (by rfl) rfl rfl (by (try simp only [List.map_toArray, List.map_cons, List.map_nil]); first | done | rfl | (simp only [List.length_drop, List.length_take]; rfl)) ?_
  with_reducible refine (cmp_Compare_int.calls a0_1 a1_1 t331 _ A4.out).mono ?_
  rintro e w' ⟨rfl, ⟨nd, rfl⟩⟩
  refine ⟨_, rfl, ?_⟩
  refine hK.out _ _ ⟨(blk_cell BK328.out 0).trans rfl, (blk_cell BK328.out 1).trans rfl, (blk_cell BK328.out 2).trans rfl, (blk_cell BK329.out 0).trans rfl, (blk_cell BK329.out 1).trans rfl, (blk_cell BK329.out 2).trans rfl⟩ (fun hHeld => ?_)
  clear hK K
  refine norm_ (a' := ?_) ?_ ?_
  rotate_left
  · show Act.put _ (some 14) _ = _
    simp only [Act.put, List.setIfInBounds_toArray, List.set_cons_zero, List.set_cons_succ, i64_w, i32_w]
    rfl
  refine one_ (i := 14) (N := some 19) #[true, true, true, true, true, true, true, true, true, true, true, true, true, true, true, false, false, false] rfl rfl (one_of HT_.out (by kernel_rfl)) (by decide) (fun K hK => ?_)
  refine goes_ Tryd.func75 (by kernel_rfl) rfl #[.string a0_2, .string a1_2] (by rfl) rfl rfl (by (try simp only [List.map_toArray, List.map_cons, List.map_nil]); first | done | rfl | (simp only [List.length_drop, List.length_take]; rfl)) ?_
  with_reducible refine (strings_Compare.calls a0_2 a1_2 t332 _ A5.out).mono ?_
  rintro e w' ⟨rfl, ⟨nd, rfl⟩⟩
  refine ⟨_, rfl, ?_⟩
  refine hK.out _ _ ⟨(blk_cell BK328.out 0).trans rfl, (blk_cell BK328.out 1).trans rfl, (blk_cell BK328.out 2).trans rfl, (blk_cell BK329.out 0).trans rfl, (blk_cell BK329.out 1).trans rfl, (blk_cell BK329.out 2).trans rfl⟩ (fun hHeld => ?_)
  clear hK K
  refine norm_ (a' := ?_) ?_ ?_
  rotate_left
  · show Act.put _ (some 19) _ = _
    simp only [Act.put, List.setIfInBounds_toArray, List.set_cons_zero, List.set_cons_succ, i64_w, i32_w]
    rfl
  refine one_ (i := 15) (N := some 20) #[true, true, true, true, true, true, true, true, true, true, true, true, true, true, true, true, false, false] rfl rfl (one_of HT_.out (by kernel_rfl)) (by decide) (fun K hK => ?_)
  refine Kd.R_lit_step (Kd.int .i64) _ 3 ?hg (N := 20) ?hd (xs := ([t330, t331, t332] : List Int)) (inner := [.int .i64 t330, .int .i64 t331, .int .i64 t332]) (ok := fun _ => True) (okp := fun _ => True) ?hr ?hp (fun _ hk => hk) trivial (Below.refl _ _) (Nat.le_refl _) (by simp) ?_; (case hd => rfl); (case hg => rfl); (case hr => first | (go_simp; done) | (go_simp; rfl)); (case hp => exact (Reps.one (show Kd.M (Kd.int .i64) _ _ _ t330 [.int .i64 t330] from rfl) (Reps.one (show Kd.M (Kd.int .i64) _ _ _ t331 [.int .i64 t331] from rfl) (Reps.one (show Kd.M (Kd.int .i64) _ _ _ t332 [.int .i64 t332] from rfl) (Reps.none _ _)))))
  intro v334 w10 ho11 hb hg_ hnew_
  clear hg_ hnew_
  (first | rw [← Ny333.out] at ho11 | (simp only [Int.reduceToNat] at ho11; rw [← Ny333.out] at ho11))
  have n0_ := Aside0.mk (Kd.R_lower ho11 (below_size (by repeat (first | (with_reducible first | exact HB.out | apply below_alloc | apply pw_below_drewN | apply below_drew1 | refine below_set ?_ GE328.out | refine below_set ?_ GE329.out) | exact HB.out))))
  have n1_ := Aside0.mk (blk_below (g := gb328) (o := .cells #[.int .i64 a0_0, .int .i64 a0_1, .string a0_2] 23 (0, 0)) (by (with_reducible repeat (first | refine blk_drewN ?_ _ | refine blk_drew ?_ | refine blk_alloc ?_ _)); exact BK328.out) hb)
  have n2_ := Aside0.mk (blk_below (g := gb329) (o := .cells #[.int .i64 a1_0, .int .i64 a1_1, .string a1_2] 23 (0, 0)) (by (with_reducible repeat (first | refine blk_drewN ?_ _ | refine blk_drew ?_ | refine blk_alloc ?_ _)); exact BK329.out) hb)
  have n3_ := Aside0.mk (below_step (by repeat (first | (with_reducible first | exact HB.out | apply below_alloc | apply pw_below_drewN | apply below_drew1 | refine below_set ?_ GE328.out | refine below_set ?_ GE329.out) | exact HB.out)) hb)
  clear BK328
  clear BK329
  clear HB
  have HO335 := n0_
  have BK328 := n1_
  have BK329 := n2_
  have HB := n3_
  clear n0_ n1_ n2_ n3_
  clear hb ho11
  obtain ⟨Ao12, co12, eo12⟩ := Kd.R_slice HO335.out
  (first | subst eo12 | (injection eo12 with f1_ f2_ f3_; have f4_ := f1_.symm; have f5_ := f3_.symm; clear f1_ f2_ f3_; subst f4_; subst f5_))
  refine hK.out _ _ ⟨(blk_cell BK328.out 0).trans rfl, (blk_cell BK328.out 1).trans rfl, (blk_cell BK328.out 2).trans rfl, (blk_cell BK329.out 0).trans rfl, (blk_cell BK329.out 1).trans rfl, (blk_cell BK329.out 2).trans rfl⟩ (fun hHeld => ?_)
  clear hK K
  refine norm_ (a' := ?_) ?_ ?_
  rotate_left
  · show Act.put _ (some 20) _ = _
    simp only [Act.put, List.setIfInBounds_toArray, List.set_cons_zero, List.set_cons_succ, i64_w, i32_w]
    rfl
  refine one_ (i := 16) (N := some 21) #[true, true, true, true, true, true, true, true, true, true, true, true, true, true, true, true, true, false] rfl rfl (one_of HT_.out (by kernel_rfl)) (by decide) (fun K hK => ?_)
  refine goes_ Tryd.func74 (by kernel_rfl) rfl #[.slice Ao12 y333.length co12] (by rfl) rfl rfl (by (try simp only [List.map_toArray, List.map_cons, List.map_nil]); first | done | rfl | (simp only [List.length_drop, List.length_take]; rfl)) ?_
  with_reducible refine (cmp_Or_int.calls k _ _ y333 t336 _ ?side1 ?side2 A6.out).mono ?_
  (case side1 => repeat (first | exact (Kd.R_reads' HO335.out).2.2 | (with_reducible refine Kd.C_alloc ?_ _) | (with_reducible refine Kd.C_drewN ?_ _) | (with_reducible refine Kd.C_drew ?_)))
  (case side2 => exact (Kd.R_reads' HO335.out).2.1)
  rintro e w' ⟨rfl, ⟨nd, rfl⟩⟩
  refine ⟨_, rfl, ?_⟩
  refine hK.out _ _ ⟨(blk_cell BK328.out 0).trans rfl, (blk_cell BK328.out 1).trans rfl, (blk_cell BK328.out 2).trans rfl, (blk_cell BK329.out 0).trans rfl, (blk_cell BK329.out 1).trans rfl, (blk_cell BK329.out 2).trans rfl⟩ (fun hHeld => ?_)
  clear hK K
  refine norm_ (a' := ?_) ?_ ?_
  rotate_left
  · show Act.put _ (some 21) _ = _
    simp only [Act.put, List.setIfInBounds_toArray, List.set_cons_zero, List.set_cons_succ, i64_w, i32_w]
    rfl
  refine pure_ (i := 17) (N := some 4) (v := ?_) (a' := ?_) #[true, true, true, true, true, true, true, true, true, true, true, true, true, true, true, true, true, true] rfl rfl (any_of HT_.out (by kernel_rfl)) (fun _ _ _ h => h) (Or.inl ⟨by rfl, ?_⟩) ?_ ?_
  rotate_left
  · intro w'
    go_simp
    with_reducible rfl
  rotate_left
  · simp only [Act.put, List.setIfInBounds_toArray, List.set_cons_zero, List.set_cons_succ, i64_w, i32_w]
    rfl
  refine done_ (done_of HT_.out (by kernel_rfl)) ?_
  try go_wp2
  go_ret
  exact ⟨by first | rfl | (simp [errW_none, errW_some] <;> rfl) | (simp [errW_none, errW_some, bne, show ∀ l_ : List UInt8, (l_ == []) = l_.isEmpty from fun l_ => by cases l_ <;> rfl]; done) | (simp [*, errW_none, errW_some] <;> rfl), by repeat (first | (with_reducible first | exact HB.out | apply below_alloc | apply pw_below_drewN | apply below_drew1 | refine below_set ?_ GE328.out | refine below_set ?_ GE329.out) | exact HB.out)⟩

-- NOT PRINTED: function 13 (hearsaylaw02_lent)

-- NOT PRINTED: function 17 (hearsaylaw02_still)

-- NOT PRINTED: function 18 (hearsaylaw02_kept)

end Go.Proofs.YtnomgmlfagiffaaDoor.T
/- What the printed functions of package term answer, in closed form. -/
set_option linter.unusedVariables false
set_option linter.unusedSimpArgs false
namespace Go.Proofs.YtnomgmlfagiffaaDoor.T
open Go.RowKit Go.Lib Go.Proofs.YtnomgmlfagiffaaDoorW.PrintWords Go.Proofs.YtnomgmlfagiffaaDoor.Hs
def isConst (t : Tm) : Bool := (decide (t.f0 = 1) && (t.f2.toList == ([] : List UInt8))) || (decide (t.f0 = 2) && (decide (t.f1 = 0) && decide ((t.f2.size : Int) ≤ 64)))
theorem const_f (t : Tm) : term_Const.f t.f0 t.f1 t.f2 = some (isConst t) := by
  unfold term_Const.f isConst
  by_cases h : t.f0 = 1
  · simp [h]
  · by_cases h2 : t.f0 = 2
    · by_cases h3 : t.f1 = 0 <;> simp [h2, h3]
    · simp [h, h2]
theorem orI_f (a b c : Int) (k : Nat) : cmp_Or_int.f (k + 4) [a, b, c] = some (orI a (orI b c)) := by
  unfold cmp_Or_int.f orI
  by_cases ha : a = 0
  · by_cases hb : b = 0
    · by_cases hc : c = 0
      · simp [cmp_Or_int.l0, rd, wrap64, ha, hb, hc]
      · simp [cmp_Or_int.l0, rd, wrap64, ha, hb, hc]
    · simp [cmp_Or_int.l0, rd, wrap64, ha, hb]
  · simp [cmp_Or_int.l0, rd, wrap64, ha]
def cmpT (a b : Tm) : Int := orI (compareInt a.f0 b.f0) (orI (compareInt a.f1 b.f1) (compareBytes a.f2.toList b.f2.toList))
theorem cmpInt_f (x y : Int) : cmp_Compare_int.f x y = some (compareInt x y) := by
  rw [cmp_f]
  unfold compareInt
  split
  · rfl
  · split
    · rfl
    · rfl
theorem cmpStr_f (x y : ByteArray) : strings_Compare.f x y = some (compareBytes x.toList y.toList) := by
  unfold strings_Compare.f bytealg_CompareString.f
  simp [toList_data]
theorem cmpT_f (a b : Tm) (k : Nat) : term_Compare.f (k + 4) a.f0 a.f1 a.f2 b.f0 b.f1 b.f2 = some (cmpT a b) := by
  unfold term_Compare.f cmpT
  rw [cmpInt_f, cmpInt_f, cmpStr_f]
  simp only [Option.bind_some]
  rw [orI_f]
  rfl
theorem ba_ext {a b : ByteArray} (h : a.toList = b.toList) : a = b := by
  rw [toList_data, toList_data] at h
  exact WideShapes.bytes_inj h
theorem eqT_iff (a b : Tm) : eqT a b = true ↔ a = b := by
  unfold eqT
  simp only [Bool.and_eq_true, beq_iff_eq]
  constructor
  · rintro ⟨h0, h1, h2⟩
    cases a; cases b
    simp only at h0 h1 h2
    subst h0 h1
    rw [ba_ext h2]
  · rintro rfl
    exact ⟨rfl, rfl, rfl⟩
end Go.Proofs.YtnomgmlfagiffaaDoor.T
/- Matching, plainly: the map of the steps is the map of the binding grown step by step. -/
set_option linter.unusedVariables false
set_option linter.unusedSimpArgs false
namespace Go.Proofs.YtnomgmlfagiffaaDoor.T
open Go.RowKit Go.Lib Go.Proofs.YtnomgmlfagiffaaDoorW.PrintWords Go.Proofs.YtnomgmlfagiffaaDoor.Hs
theorem getM_nil (v : Int) : getM [] v = none := rfl
theorem getM_app (s r : List Bd) (v : Int) : getM (s ++ r) v = (getM s v).or (getM r v) := by
  induction s with
  | nil => simp [getM_nil]
  | cons b s ih =>
    rw [List.cons_append, getM_cons, getM_cons, ih]
    split
    · rfl
    · rfl
theorem getM_put {v : Int} {t : Tm} (w : Int) : ∀ {m : List Bd}, Rising m → getM (putM v t m) w = if v = w then some t else getM m w
  | [], _ => by rw [putM, getM_cons]
  | c :: r, h => by
    obtain ⟨h1, h2⟩ := List.pairwise_cons.1 h
    unfold putM
    split
    · rw [getM_cons]
    · split
      · rename_i hv
        rw [getM_cons, getM_cons]
        by_cases e : v = w
        · rw [if_pos e, if_pos e]
        · rw [if_neg e, if_neg e, if_neg (by omega)]
      · rename_i hv hc
        rw [getM_cons, getM_put w h2, getM_cons]
        by_cases e : v = w
        · rw [if_neg (by omega), if_pos e, if_pos e]
        · rw [if_neg e, if_neg e]
theorem putM_same {v : Int} {t : Tm} : ∀ {m : List Bd}, Rising m → getM m v = some t → putM v t m = m
  | [], _, h => by simp [getM_nil] at h
  | c :: r, hm, h => by
    obtain ⟨h1, h2⟩ := List.pairwise_cons.1 hm
    rw [getM_cons] at h
    unfold putM
    by_cases e : c.f0 = v
    · rw [if_pos e] at h
      injection h with h
      rw [if_neg (by omega), if_pos e]
      cases c
      simp only at e h
      subst e h
      rfl
    · rw [if_neg e] at h
      have hin := getM_mem h
      have := h1 _ hin
      simp only at this
      rw [if_neg (by omega), if_neg e, putM_same h2 h]
theorem getM_fold (v : Int) : ∀ (s m : List Bd), Rising m → getM (s.foldl (fun m b => if (getM m b.f0).isSome then m else putM b.f0 b.f1 m) m) v = (getM m v).or (getM s v)
  | [], m, _ => by simp [getM_nil]
  | b :: s, m, h => by
    rw [List.foldl_cons, getM_cons]
    by_cases e : (getM m b.f0).isSome = true
    · rw [if_pos e, getM_fold v s m h]
      by_cases ev : b.f0 = v
      · subst ev
        obtain ⟨t, ht⟩ := Option.isSome_iff_exists.1 e
        rw [ht]; simp
      · rw [if_neg ev]
    · rw [if_neg e, getM_fold v s _ (putM_rising h), getM_put v h]
      have e0 : getM m b.f0 = none := by simpa using e
      by_cases ev : b.f0 = v
      · subst ev; rw [if_pos rfl, if_pos rfl, e0]; simp
      · rw [if_neg ev, if_neg ev]
theorem getM_start (s : List Bd) (v : Int) : getM (startM s) v = getM s v := by
  unfold startM
  rw [getM_fold v s [] List.Pairwise.nil, getM_nil]
  rfl
/-- The binding that a match grows: what is new stands behind. -/
def growB : List Tm → List Tm → List Bd → List Bd
  | t :: p, u :: q, s => growB p q (if isVar t && (getM s t.f1).isNone then s ++ [⟨t.f1, u⟩] else s)
  | _, _, s => s
theorem growB_cons (t u : Tm) (p q : List Tm) (s : List Bd) : growB (t :: p) (u :: q) s = growB p q (if isVar t && (getM s t.f1).isNone then s ++ [⟨t.f1, u⟩] else s) := rfl
theorem growB_keeps {v : Int} {w : Tm} : ∀ (p q : List Tm) (s : List Bd), getM s v = some w → getM (growB p q s) v = some w
  | [], _, _, h => h
  | _ :: _, [], _, h => h
  | t :: p, u :: q, s, h => by
    unfold growB
    refine growB_keeps p q _ ?_
    split
    · rw [getM_app, h]; rfl
    · exact h
open Classical in
theorem stepM_grow : ∀ (p q : List Tm) (s : List Bd), p.length = q.length → stepM p q (startM s) = if p.map (becomeT (growB p q s)) = q then some (startM (growB p q s)) else none
  | [], [], s, _ => by simp [stepM, growB]
  | [], _ :: _, _, h => by simp at h
  | _ :: _, [], _, h => by simp at h
  | t :: p, u :: q, s, h => by
    have hl : p.length = q.length := by simpa using h
    rw [stepM, growB_cons, List.map_cons]
    cases hv : isVar t with
    | false =>
      simp only [Bool.false_eq_true, if_false, Bool.false_and]
      have eb : becomeT (growB p q s) t = t := by unfold becomeT; rw [hv]; rfl
      rw [eb]
      by_cases e : t = u
      · rw [if_pos ((eqT_iff t u).2 e), stepM_grow p q s hl, e]
        simp
      · rw [if_neg (fun h => e ((eqT_iff t u).1 h)), if_neg (fun h => e (by injection h))]
    | true =>
      simp only [if_true, Bool.true_and]
      rw [getM_start]
      cases hg : getM s t.f1 with
      | some was =>
        simp only [Option.isNone_some, Bool.false_eq_true, if_false]
        have eb : becomeT (growB p q s) t = was := by unfold becomeT; rw [hv, growB_keeps p q s hg]; rfl
        rw [eb]
        by_cases e : was = u
        · rw [if_pos ((eqT_iff was u).2 e), putM_same (startM_rising s) (by rw [getM_start, hg, e]), stepM_grow p q s hl, e]
          simp
        · rw [if_neg (fun h => e ((eqT_iff was u).1 h)), if_neg (fun h => e (by injection h))]
      | none =>
        simp only [Option.isNone_none, if_true]
        have es : putM t.f1 u (startM s) = startM (s ++ [⟨t.f1, u⟩]) := by
          rw [startM_snoc, getM_start, hg]
          rfl
        have eg : getM (s ++ [⟨t.f1, u⟩]) t.f1 = some u := by
          rw [getM_app, hg, getM_cons, if_pos rfl]
          rfl
        have eb : becomeT (growB p q (s ++ [⟨t.f1, u⟩])) t = u := by unfold becomeT; rw [hv, growB_keeps p q _ eg]; rfl
        rw [es, stepM_grow p q _ hl, eb]
        simp
end Go.Proofs.YtnomgmlfagiffaaDoor.T
/- The document's Settled answers the map of the binding. -/
set_option linter.unusedVariables false
set_option linter.unusedSimpArgs false
namespace Go.Proofs.YtnomgmlfagiffaaDoor.T
open Go.RowKit Go.Lib Go.Proofs.YtnomgmlfagiffaaDoorW.PrintWords Go.Proofs.YtnomgmlfagiffaaDoor.Hs
theorem putM_len (v : Int) (t : Tm) : ∀ m : List Bd, (putM v t m).length ≤ m.length + 1
  | [] => by simp [putM]
  | c :: r => by
    have := putM_len v t r
    unfold putM
    split
    · simp
    · split
      · simp
      · simp only [List.length_cons]; omega
theorem startM_len (s : List Bd) : (startM s).length ≤ s.length := by
  unfold startM
  suffices h : ∀ m : List Bd, (s.foldl (fun m b => if (getM m b.f0).isSome then m else putM b.f0 b.f1 m) m).length ≤ m.length + s.length from by simpa using h []
  induction s with
  | nil => intro m; simp
  | cons b r ih =>
    intro m
    rw [List.foldl_cons]
    refine Nat.le_trans (ih _) ?_
    have := putM_len b.f0 b.f1 m
    simp only [List.length_cons]
    split <;> omega
theorem getM_has {s : List Bd} {b : Bd} (hb : b ∈ s) : ∃ t, getM s b.f0 = some t := by
  induction s with
  | nil => simp at hb
  | cons c r ih =>
    rw [getM_cons]
    by_cases e : c.f0 = b.f0
    · exact ⟨_, if_pos e⟩
    · rw [if_neg e]
      rcases List.mem_cons.1 hb with rfl | hb
      · exact absurd rfl e
      · exact ih hb
end Go.Proofs.YtnomgmlfagiffaaDoor.T
/- Apply in closed form: the program's and the document's are the same. -/
set_option linter.unusedVariables false
set_option linter.unusedSimpArgs false
namespace Go.Proofs.YtnomgmlfagiffaaDoor.T
open Go.RowKit Go.Lib Go.Proofs.YtnomgmlfagiffaaDoorW.PrintWords
theorem apply_f (s : List Bd) (t : Tm) (nm : ByteArray) (l : List Tm) (ls : s.length < smallN) (ll : l.length < smallN) (k : Nat) (hk : s.length + l.length + 2 ≤ k) :
    term_Apply.f k s t.f0 t.f1 t.f2 nm l = some ((becomeT s t).f0, (becomeT s t).f1, (becomeT s t).f2, nm, l.map (becomeT s)) := by
  unfold term_Apply.f
  rw [become_f s t ls k (by omega)]
  simp only [Option.bind_some]
  suffices h : ∀ (n i k : Nat) (out : List Tm) (a b : Int) (c d : ByteArray), l.length = i + n → out.length = i → s.length + n + 2 ≤ k → term_Apply.l0 k s l (l.length : Int) (i : Int) a b c d out = some (a, b, c, d, out ++ (l.drop i).map (becomeT s)) from by
    have := h l.length 0 k [] (becomeT s t).f0 (becomeT s t).f1 (becomeT s t).f2 nm (by omega) rfl (by omega)
    simpa using this
  intro n
  induction n with
  | zero =>
    intro i k out a b c d hi ho hk
    obtain ⟨k, rfl⟩ : ∃ m, k = m + 1 := ⟨k - 1, by omega⟩
    rw [term_Apply.l0, if_neg (by omega), List.drop_eq_nil_of_le (by omega)]
    simp
  | succ n ih =>
    intro i k out a b c d hi ho hk
    obtain ⟨k, rfl⟩ : ∃ m, k = m + 1 := ⟨k - 1, by omega⟩
    rw [term_Apply.l0, if_pos (by omega), if_pos (by omega), if_pos (by omega), rd_at23 _ _ (by omega), become_f s _ ls k (by omega), wrap_succ i (by omega)]
    simp only [Option.bind_some]
    rw [if_pos (by simp [smallN] at ll; omega), ih (i + 1) k _ a b c d (by omega) (by simp [ho]) (by omega), List.drop_eq_getElem_cons (show i < l.length by omega)]
    simp only [List.map_cons, List.append_assoc, List.cons_append, List.nil_append]
end Go.Proofs.YtnomgmlfagiffaaDoor.T
/- The document's Match is the program's. -/
set_option linter.unusedVariables false
set_option linter.unusedSimpArgs false
namespace Go.Proofs.YtnomgmlfagiffaaDoor.T
open Go.RowKit Go.Lib Go.Proofs.YtnomgmlfagiffaaDoorW.PrintWords Go.Proofs.YtnomgmlfagiffaaDoor.Hs
theorem getM_ok {s : List Bd} {v : Int} {t : Tm} (hs : s.all okB = true) (h : getM s v = some t) : okT t = true := by
  have := List.all_eq_true.1 hs _ (getM_mem h)
  simp only [okB, Bool.and_eq_true] at this
  exact this.2
theorem becomeT_ok {s : List Bd} {t : Tm} (hs : s.all okB = true) (ht : okT t = true) : okT (becomeT s t) = true := by
  unfold becomeT
  split
  · cases h : getM s t.f1 with
    | none => exact ht
    | some u => exact getM_ok hs h
  · exact ht
end Go.Proofs.YtnomgmlfagiffaaDoor.T
/- Lengths of what a match answers. -/
set_option linter.unusedVariables false
set_option linter.unusedSimpArgs false
namespace Go.Proofs.YtnomgmlfagiffaaDoor.T
open Go.RowKit Go.Lib Go.Proofs.YtnomgmlfagiffaaDoorW.PrintWords Go.Proofs.YtnomgmlfagiffaaDoor.Hs
theorem growB_len : ∀ (p q : List Tm) (s : List Bd), (growB p q s).length ≤ s.length + p.length
  | [], _, _ => Nat.le_refl _
  | _ :: _, [], s => Nat.le_add_right _ _
  | t :: p, u :: q, s => by
    rw [growB_cons]
    refine Nat.le_trans (growB_len p q _) ?_
    split
    · simp only [List.length_append, List.length_cons, List.length_nil]; omega
    · simp only [List.length_cons]; omega
end Go.Proofs.YtnomgmlfagiffaaDoor.T
/- slices.IndexFunc, ContainsFunc and CompareFunc at Term, with function values that may lay memory. -/
set_option linter.unusedVariables false
set_option linter.unusedSimpArgs false
namespace Go.Proofs.YtnomgmlfagiffaaDoor.T
open Go.RowKit Go.Proofs.YtnomgmlfagiffaaDoorW.PrintWords Go.Proofs.YtnomgmlfagiffaaDoorW.PrintLast
/-- What is asked of a function value over a term: it answers p, whatever lies new. -/
def PredB (g : Nat) (p : Tm → Bool) (w : World) : Prop := ∀ (x : Tm) (W : World), okT x = true → Below w.heap.size w W → Calls Tryd.prog g #[.agg #[.int .i64 x.f0, .int .i64 x.f1, .string x.f2]] W fun e W' => e = .returned (.bool (p x)) ∧ Below W.heap.size W W'
theorem any_false {l : List Tm} {p : Tm → Bool} (h : ∀ j : Nat, (hj : j < l.length) → p l[j] = false) : l.any p = false := by
  rw [List.any_eq_false]
  intro x hx
  obtain ⟨j, hj, rfl⟩ := List.getElem_of_mem hx
  simp [h j hj]
set_option maxHeartbeats 4000000 in
set_option maxRecDepth 100000 in
theorem idxF_calls (p : Tm → Bool) (g : Nat) (eg : ∀ args w, (callFunc g args).run Tryd.prog w = .ok (.enter g args) w) (A0 : Option Addr) (c0 : Nat) (l : List Tm) (w : World)
    (hr0 : Kd.C k23 w A0 l.length l) (hc0 : l.length ≤ c0) (ol : l.all okT = true) (hs : l.length < smallN) (hp : PredB g p w) :
    Calls Tryd.prog 85 #[.slice A0 l.length c0, .func (.func g) #[] #[]] w fun e w' => ∃ r : Int, e = .returned (.int .i64 r) ∧ decide (0 ≤ r) = l.any p ∧ Below w.heap.size w w' := by
  have hu23 := Tryd.underlying23
  have HR0 := Aside0.mk hr0
  have HC0 := Aside0.mk hc0
  have OL := Aside0.mk ol
  have HS := Aside0.mk hs
  have HP := Aside0.mk hp
  clear hr0 hc0 ol hs hp
  have HB := Aside0.mk (Below.refl w.heap.size w)
  go_enter Tryd.func85, Tryd.ntmps85
  go_wp2
  go_loopg [5, 8] l.length (fun gg _ s8 wr => ∃ i : Int, Aside0 (0 ≤ i ∧ i ≤ (l.length : Int) ∧ (l.length : Int) - i ≤ (gg : Int)) ∧ s8 = .int .i64 i ∧ Aside0 (∀ j : Nat, (hj : j < l.length) → (j : Int) < i → p l[j] = false) ∧ Aside0 (Below w.heap.size w wr))
  case atStart => exact ⟨0, ⟨by omega, by omega, by omega⟩, rfl, ⟨fun j _ hj => absurd hj (by omega)⟩, HB⟩
  case round =>
    obtain ⟨i, HK, rfl, HA, HB1⟩ := hrel
    by_cases hlt : i < (l.length : Int)
    · have hltb : decide (i < (l.length : Int)) = true := decide_eq_true hlt
      have hpos : 0 ≤ i := HK.out.1
      have HLT := Aside0.mk (show i.toNat < l.length by omega)
      have HPOS := Aside0.mk hpos
      obtain ⟨ad, e0, h0, h1, h2⟩ := at_T23 HR0.out i hpos hlt
      cases e0
      replace h0 := (HB1.out.cell (World.block_lt_of_cell? w _ h0)).trans h0
      replace h1 := (HB1.out.cell (World.block_lt_of_cell? w _ h1)).trans h1
      replace h2 := (HB1.out.cell (World.block_lt_of_cell? w _ h2)).trans h2
      have HY := Aside0.mk (show l[i.toNat]'HLT.out = rd_T23 l i from by simp [rd_T23, List.getD_eq_getElem?_getD, List.getElem?_eq_getElem HLT.out])
      have hok : okT (rd_T23 l i) = true := by rw [← HY.out]; exact List.all_eq_true.1 OL.out _ (List.getElem_mem HLT.out)
      have hcall := HP.out (rd_T23 l i) wr hok HB1.out
      have hwr : wrap64 (i + 1) = i + 1 := by have := HS.out; simp only [smallN] at this; simp only [wrap64]; omega
      have hlt' := eq_true hlt
      have hpos' := eq_true hpos
      clear hok hlt hpos
      cases hq : p (rd_T23 l i) with
      | true =>
        rw [hq] at hcall
        have HQ := Aside0.mk hq
        clear hq
        go_wp2_with (go_at_fn g; refine hcall.mono ?_; rintro e w' ⟨rfl, hb⟩; have HB2 := Aside0.mk (below_step HB1.out hb); clear hb)
        go_ret
        refine ⟨i, rfl, ?_, HB2.out⟩
        rw [show l.any p = true from List.any_eq_true.2 ⟨rd_T23 l i, by rw [← HY.out]; exact List.getElem_mem HLT.out, HQ.out⟩]
        simpa using HPOS.out
      | false =>
        rw [hq] at hcall
        have HQ := Aside0.mk hq
        clear hq
        go_wp2_with (go_at_fn g; refine hcall.mono ?_; rintro e w' ⟨rfl, hb⟩; have HB2 := Aside0.mk (below_step HB1.out hb); clear hb)
        go_roundg (l.length - (i.toNat + 1))
        case measure => have := HK.out; have := HLT.out; omega
        case rel =>
          refine ⟨i + 1, ⟨by have := HPOS.out; omega, by have := HLT.out; omega, by have := HLT.out; have := HPOS.out; omega⟩, by first | rfl | (simp [hwr]; done) | go_num, ⟨fun j hj hjk => ?_⟩, HB2⟩
          by_cases e : (j : Int) = i
          · subst e; have := HY.out; simp at this; rw [this]; exact HQ.out
          · exact HA.out j hj (by omega)
    · have hltb : decide (i < (l.length : Int)) = false := decide_eq_false hlt
      have HN := Aside0.mk hlt
      clear hlt
      go_wp2
      go_ret
      refine ⟨-1, rfl, ?_, HB1.out⟩
      rw [any_false (fun j hj => HA.out j hj (by have := HN.out; omega))]
      rfl
set_option maxHeartbeats 4000000 in
set_option maxRecDepth 100000 in
theorem hasF_calls (p : Tm → Bool) (g : Nat) (eg : ∀ args w, (callFunc g args).run Tryd.prog w = .ok (.enter g args) w) (A0 : Option Addr) (c0 : Nat) (l : List Tm) (w : World)
    (hr0 : Kd.C k23 w A0 l.length l) (hc0 : l.length ≤ c0) (ol : l.all okT = true) (hs : l.length < smallN) (hp : PredB g p w) :
    Calls Tryd.prog 70 #[.slice A0 l.length c0, .func (.func g) #[] #[]] w fun e w' => e = .returned (.bool (l.any p)) ∧ Below w.heap.size w w' := by
  have hcall := idxF_calls p g eg A0 c0 l w hr0 hc0 ol hs hp
  clear hr0 hc0 ol hs hp
  go_enter Tryd.func70, Tryd.ntmps70
  go_wp2_with (go_at_call 85; refine hcall.mono ?_; rintro e w' ⟨r, rfl, hd, hb⟩; have HD := Aside0.mk hd; have HB := Aside0.mk hb; clear hd hb)
  go_ret
  exact ⟨by first | rw [← HD.out]; rfl | simp [← HD.out], HB.out⟩
def CmpB (g : Nat) (cf : Tm → Tm → Int) (w : World) : Prop := ∀ (x y : Tm) (W : World), okT x = true → okT y = true → Below w.heap.size w W → Calls Tryd.prog g #[.agg #[.int .i64 x.f0, .int .i64 x.f1, .string x.f2], .agg #[.int .i64 y.f0, .int .i64 y.f1, .string y.f2]] W fun e W' => e = .returned (.int .i64 (cf x y)) ∧ Below W.heap.size W W'
/-- What slices.CompareFunc answers. -/
def cmpL (cf : Tm → Tm → Int) : List Tm → List Tm → Int
  | [], [] => 0
  | [], _ :: _ => -1
  | _ :: _, [] => 1
  | x :: l, y :: m => if cf x y = 0 then cmpL cf l m else cf x y
theorem cmpL_step {cf : Tm → Tm → Int} {l m : List Tm} {i : Nat} (hl : i < l.length) (hm : i < m.length) : cmpL cf (l.drop i) (m.drop i) = if cf l[i] m[i] = 0 then cmpL cf (l.drop (i + 1)) (m.drop (i + 1)) else cf l[i] m[i] := by
  rw [List.drop_eq_getElem_cons hl, List.drop_eq_getElem_cons hm]
  rfl
set_option maxHeartbeats 8000000 in
set_option maxRecDepth 100000 in
theorem cmpF_calls (cf : Tm → Tm → Int) (g : Nat) (eg : ∀ args w, (callFunc g args).run Tryd.prog w = .ok (.enter g args) w) (A0 : Option Addr) (c0 : Nat) (l : List Tm) (A1 : Option Addr) (c1 : Nat) (m : List Tm) (w : World)
    (hr0 : Kd.C k23 w A0 l.length l) (hc0 : l.length ≤ c0) (hr1 : Kd.C k23 w A1 m.length m) (hc1 : m.length ≤ c1) (ol : l.all okT = true) (om : m.all okT = true) (hs : l.length < smallN) (hp : CmpB g cf w) :
    Calls Tryd.prog 77 #[.slice A0 l.length c0, .slice A1 m.length c1, .func (.func g) #[] #[]] w fun e w' => e = .returned (.int .i64 (cmpL cf l m)) ∧ Below w.heap.size w w' := by
  have hu23 := Tryd.underlying23
  have HR0 := Aside0.mk hr0
  have HC0 := Aside0.mk hc0
  have HR1 := Aside0.mk hr1
  have HC1 := Aside0.mk hc1
  have OL := Aside0.mk ol
  have OM := Aside0.mk om
  have HS := Aside0.mk hs
  have HP := Aside0.mk hp
  clear hr0 hc0 hr1 hc1 ol om hs hp
  have HB := Aside0.mk (Below.refl w.heap.size w)
  go_enter Tryd.func77, Tryd.ntmps77
  go_wp2
  go_loopg [13] l.length (fun gg s13 wr => ∃ i : Int, Aside0 (0 ≤ i ∧ i ≤ (l.length : Int) ∧ i ≤ (m.length : Int) ∧ (l.length : Int) - i ≤ (gg : Int)) ∧ s13 = .int .i64 i ∧ Aside0 (cmpL cf (l.drop i.toNat) (m.drop i.toNat) = cmpL cf l m) ∧ Aside0 (Below w.heap.size w wr))
  case atStart => exact ⟨0, ⟨by omega, by omega, by omega, by omega⟩, rfl, ⟨rfl⟩, HB⟩
  case round =>
    obtain ⟨i, HK, rfl, HA, HB1⟩ := hrel
    by_cases hlt : i < (l.length : Int)
    · have hltb : decide (i < (l.length : Int)) = true := decide_eq_true hlt
      have hpos : 0 ≤ i := HK.out.1
      have HLT := Aside0.mk (show i.toNat < l.length by omega)
      have HPOS := Aside0.mk hpos
      obtain ⟨ad, e0, h0, h1, h2⟩ := at_T23 HR0.out i hpos hlt
      cases e0
      replace h0 := (HB1.out.cell (World.block_lt_of_cell? w _ h0)).trans h0
      replace h1 := (HB1.out.cell (World.block_lt_of_cell? w _ h1)).trans h1
      replace h2 := (HB1.out.cell (World.block_lt_of_cell? w _ h2)).trans h2
      have HY := Aside0.mk (show l[i.toNat]'HLT.out = rd_T23 l i from by simp [rd_T23, List.getD_eq_getElem?_getD, List.getElem?_eq_getElem HLT.out])
      have hok : okT (rd_T23 l i) = true := by rw [← HY.out]; exact List.all_eq_true.1 OL.out _ (List.getElem_mem HLT.out)
      have HOK := Aside0.mk hok
      have hwr : wrap64 (i + 1) = i + 1 := by have := HS.out; simp only [smallN] at this; simp only [wrap64]; omega
      have hlt' := eq_true hlt
      have hpos' := eq_true hpos
      clear hok hlt
      by_cases hm : (m.length : Int) ≤ i
      · have hmb : decide ((m.length : Int) ≤ i) = true := decide_eq_true hm
        have HM := Aside0.mk hm
        clear hpos
        go_wp2
        go_ret
        refine ⟨?_, by first | exact HB1.out | exact below_alloc HB1.out _⟩
        rw [← HA.out, List.drop_eq_getElem_cons HLT.out, show m.drop i.toNat = [] from List.drop_of_length_le (by have := HM.out; have := HPOS.out; omega)]
        rfl
      · have hmb : decide ((m.length : Int) ≤ i) = false := decide_eq_false hm
        have hmlt : i < (m.length : Int) := by omega
        have HMT := Aside0.mk (show i.toNat < m.length by omega)
        obtain ⟨ad1, e1, g0, g1, g2⟩ := at_T23 HR1.out i hpos hmlt
        cases e1
        replace g0 := fun o => ((below_alloc HB1.out o).cell (World.block_lt_of_cell? w _ g0)).trans g0
        replace g1 := fun o => ((below_alloc HB1.out o).cell (World.block_lt_of_cell? w _ g1)).trans g1
        replace g2 := fun o => ((below_alloc HB1.out o).cell (World.block_lt_of_cell? w _ g2)).trans g2
        have HZ := Aside0.mk (show m[i.toNat]'HMT.out = rd_T23 m i from by simp [rd_T23, List.getD_eq_getElem?_getD, List.getElem?_eq_getElem HMT.out])
        have hok1 : okT (rd_T23 m i) = true := by rw [← HZ.out]; exact List.all_eq_true.1 OM.out _ (List.getElem_mem HMT.out)
        have HCALL := Aside0.mk (fun W (hb : Below w.heap.size w W) => HP.out (rd_T23 l i) (rd_T23 m i) W HOK.out hok1 hb)
        have hst := cmpL_step (cf := cf) HLT.out HMT.out
        rw [HA.out, HY.out, HZ.out] at hst
        have HST := Aside0.mk hst
        have hmlt' := eq_true hmlt
        clear hok1 hst hm hmlt hpos
        by_cases hq : cf (rd_T23 l i) (rd_T23 m i) = 0
        · have hqb : (cf (rd_T23 l i) (rd_T23 m i) != 0) = false := by simp [hq]
          have HQ := Aside0.mk hq
          clear hq
          go_wp2_with (first | (go_at_fn g; refine (HCALL.out _ (below_alloc (below_alloc HB1.out _) _)).mono ?_; rintro e w' ⟨rfl, hb⟩; have HB2 := Aside0.mk (below_step (below_alloc (below_alloc HB1.out _) _) hb); clear hb) | go_in)
          go_roundg (l.length - (i.toNat + 1))
          case measure => have := HK.out; have := HLT.out; omega
          case rel =>
            refine ⟨i + 1, ⟨by have := HPOS.out; omega, by have := HLT.out; omega, by have := HMT.out; omega, by have := HLT.out; have := HPOS.out; omega⟩, by first | rfl | (simp [hwr]; done) | go_num, ⟨?_⟩, HB2⟩
            rw [show (i + 1).toNat = i.toNat + 1 by have := HPOS.out; omega, HST.out, if_pos HQ.out]
        · have hqb : (cf (rd_T23 l i) (rd_T23 m i) != 0) = true := by simp [hq]
          have HQ := Aside0.mk hq
          clear hq
          go_wp2_with (first | (go_at_fn g; refine (HCALL.out _ (below_alloc (below_alloc HB1.out _) _)).mono ?_; rintro e w' ⟨rfl, hb⟩; have HB2 := Aside0.mk (below_step (below_alloc (below_alloc HB1.out _) _) hb); clear hb) | go_in)
          go_ret
          refine ⟨?_, HB2.out⟩
          rw [HST.out, if_neg HQ.out]
          rfl
    · have hltb : decide (i < (l.length : Int)) = false := decide_eq_false hlt
      have HN := Aside0.mk (show i.toNat = l.length by have := HK.out; omega)
      have HI := Aside0.mk (show i = (l.length : Int) by have := HK.out; omega)
      clear hlt
      by_cases hm : (l.length : Int) < (m.length : Int)
      · have hmb : decide ((l.length : Int) < (m.length : Int)) = true := decide_eq_true hm
        have HM := Aside0.mk hm
        go_wp2
        go_ret
        refine ⟨?_, HB1.out⟩
        rw [← HA.out, HN.out, List.drop_length, List.drop_eq_getElem_cons (show l.length < m.length by have := HM.out; omega)]
        rfl
      · have hmb : decide ((l.length : Int) < (m.length : Int)) = false := decide_eq_false hm
        have HM := Aside0.mk hm
        go_wp2
        go_ret
        refine ⟨?_, HB1.out⟩
        rw [← HA.out, HN.out, List.drop_length, show m.drop l.length = [] from List.drop_of_length_le (by have := HM.out; omega)]
        rfl
end Go.Proofs.YtnomgmlfagiffaaDoor.T
/- Calls of slices.ContainsFunc and CompareFunc with package term's own functions. -/
set_option linter.unusedVariables false
set_option linter.unusedSimpArgs false
namespace Go.Proofs.YtnomgmlfagiffaaDoor.T
open Go.RowKit Go.Proofs.YtnomgmlfagiffaaDoorW.PrintWords Go.Proofs.YtnomgmlfagiffaaDoorW.PrintLast
def badT (t : Tm) : Bool := !isConst t && !isVar t
set_option maxRecDepth 100000 in
theorem bad_calls (x : Tm) (w : World) :
    Calls Tryd.prog 71 #[.agg #[.int .i64 x.f0, .int .i64 x.f1, .string x.f2]] w fun e w' => e = .returned (.bool (badT x)) ∧ Below w.heap.size w w' := by
  have hu23 := Tryd.underlying23
  have HB := Aside0.mk (Below.refl w.heap.size w)
  cases hc : isConst x with
  | true =>
    have A1 := Aside0.mk ((const_f x).trans (congrArg some hc))
    have E := Aside0.mk (show badT x = false by simp [badT, hc])
    clear hc
    go_enter Tryd.func71, Tryd.ntmps71
    go_wp2_with (first | ((with_reducible refine gate_dst (N := 1) rfl ?_); refine box_event ?hg (N := 1) ?hd (cs := #[.int .i64 x.f0, .int .i64 x.f1, .string x.f2]) (t := 23) ?hr ?_; (case hd => rfl); (case hg => rfl); (case hr => first | (go_simp; done) | (go_simp; rfl)); intro b1 hb1 w1 hbox hb; have K1 := Aside0.mk hbox; have HB1 := Aside0.mk hb; clear hb1 hbox hb; have p0 := (blk_cell K1.out 0).trans rfl; have p1 := (blk_cell K1.out 1).trans rfl; have p2 := (blk_cell K1.out 2).trans rfl) | (go_at_call 37; (with_reducible refine (term_Const.calls x.f0 x.f1 x.f2 true _ A1.out).mono ?_); rintro e w2 ⟨rfl, hb⟩; have HB2 := Aside0.mk (below_step HB1.out hb); clear hb p0 p1 p2) | go_in)
    go_ret
    exact ⟨by rw [E.out]; rfl, HB2.out⟩
  | false =>
    have A1 := Aside0.mk ((const_f x).trans (congrArg some hc))
    have A2 := Aside0.mk (var_f x)
    have E := Aside0.mk (show badT x = !isVar x by simp [badT, hc])
    clear hc
    go_enter Tryd.func71, Tryd.ntmps71
    go_wp2_with (first | ((with_reducible refine gate_dst (N := 1) rfl ?_); refine box_event ?hg (N := 1) ?hd (cs := #[.int .i64 x.f0, .int .i64 x.f1, .string x.f2]) (t := 23) ?hr ?_; (case hd => rfl); (case hg => rfl); (case hr => first | (go_simp; done) | (go_simp; rfl)); intro b1 hb1 w1 hbox hb; have K1 := Aside0.mk hbox; have HB1 := Aside0.mk hb; clear hb1 hbox hb; have p0 := (blk_cell K1.out 0).trans rfl; have p1 := (blk_cell K1.out 1).trans rfl; have p2 := (blk_cell K1.out 2).trans rfl) | (go_at_call 37; (with_reducible refine (term_Const.calls x.f0 x.f1 x.f2 false _ A1.out).mono ?_); rintro e w2 ⟨rfl, hb⟩; have HB2 := Aside0.mk (below_step HB1.out hb); have K2 := Aside0.mk (blk_below K1.out hb); clear hb p0 p1 p2; have q0 := (blk_cell K2.out 0).trans rfl; have q1 := (blk_cell K2.out 1).trans rfl; have q2 := (blk_cell K2.out 2).trans rfl) | (go_at_call 27; (with_reducible refine (term_Variable.calls x.f0 x.f1 x.f2 (isVar x) _ A2.out).mono ?_); rintro e w3 ⟨rfl, hb⟩; have HB3 := Aside0.mk (below_step HB2.out hb); clear hb) | go_in)
    go_ret
    exact ⟨by rw [E.out]; rfl, HB3.out⟩
def slices_ContainsFunc_bad.f (l : List Tm) : Option Bool := if (l.all okT && decide (l.length < smallN)) = true then some (l.any badT) else none
def slices_ContainsFunc_var.f (l : List Tm) : Option Bool := if (l.all okT && decide (l.length < smallN)) = true then some (l.any isVar) else none
def slices_CompareFunc_term.f (l m : List Tm) : Option Int := if (l.all okT && (m.all okT && decide (l.length < smallN))) = true then some (cmpL cmpT l m) else none
theorem slices_ContainsFunc_bad.calls (A0 : Option Addr) (c0 : Nat) (l0 : List Tm) (r : Bool) (w : World) (hr0 : Kd.C k23 w A0 l0.length l0) (hc0 : l0.length ≤ c0) (h : slices_ContainsFunc_bad.f l0 = some r) :
    Calls Tryd.prog 70 #[.slice A0 l0.length c0, .func (.func 71) #[] #[]] w fun e w' => e = .returned (.bool r) ∧ Below w.heap.size w w' := by
  unfold slices_ContainsFunc_bad.f at h
  by_cases hc : (l0.all okT && decide (l0.length < smallN)) = true
  · rw [if_pos hc] at h
    obtain rfl := Option.some.inj h
    simp only [Bool.and_eq_true, decide_eq_true_eq] at hc
    exact hasF_calls badT 71 (enters_of Tryd.func71 (by kernel_rfl) rfl) A0 c0 l0 w hr0 hc0 hc.1 hc.2 (fun x W _ _ => bad_calls x W)
  · rw [if_neg hc] at h; cases h
theorem slices_ContainsFunc_var.calls (A0 : Option Addr) (c0 : Nat) (l0 : List Tm) (r : Bool) (w : World) (hr0 : Kd.C k23 w A0 l0.length l0) (hc0 : l0.length ≤ c0) (h : slices_ContainsFunc_var.f l0 = some r) :
    Calls Tryd.prog 70 #[.slice A0 l0.length c0, .func (.func 27) #[] #[]] w fun e w' => e = .returned (.bool r) ∧ Below w.heap.size w w' := by
  unfold slices_ContainsFunc_var.f at h
  by_cases hc : (l0.all okT && decide (l0.length < smallN)) = true
  · rw [if_pos hc] at h
    obtain rfl := Option.some.inj h
    simp only [Bool.and_eq_true, decide_eq_true_eq] at hc
    exact hasF_calls isVar 27 (enters_of Tryd.func27 (by kernel_rfl) rfl) A0 c0 l0 w hr0 hc0 hc.1 hc.2 (fun x W _ _ => term_Variable.calls x.f0 x.f1 x.f2 (isVar x) W (var_f x))
  · rw [if_neg hc] at h; cases h
theorem slices_CompareFunc_term.calls (A0 : Option Addr) (c0 : Nat) (l0 : List Tm) (A1 : Option Addr) (c1 : Nat) (l1 : List Tm) (r : Int) (w : World) (hr0 : Kd.C k23 w A0 l0.length l0) (hc0 : l0.length ≤ c0) (hr1 : Kd.C k23 w A1 l1.length l1) (hc1 : l1.length ≤ c1) (h : slices_CompareFunc_term.f l0 l1 = some r) :
    Calls Tryd.prog 77 #[.slice A0 l0.length c0, .slice A1 l1.length c1, .func (.func 67) #[] #[]] w fun e w' => e = .returned (.int .i64 r) ∧ Below w.heap.size w w' := by
  unfold slices_CompareFunc_term.f at h
  by_cases hc : (l0.all okT && (l1.all okT && decide (l0.length < smallN))) = true
  · rw [if_pos hc] at h
    obtain rfl := Option.some.inj h
    simp only [Bool.and_eq_true, decide_eq_true_eq] at hc
    exact cmpF_calls cmpT 67 (enters_of Tryd.func67 (by kernel_rfl) rfl) A0 c0 l0 A1 c1 l1 w hr0 hc0 hr1 hc1 hc.1 hc.2.1 hc.2.2 (fun x y W _ _ _ => term_Compare.calls 4 x.f0 x.f1 x.f2 y.f0 y.f1 y.f2 (cmpT x y) W (cmpT_f x y 0))
  · rw [if_neg hc] at h; cases h
end Go.Proofs.YtnomgmlfagiffaaDoor.T
/- CheckAtom, Fact, Vars, CompareAtoms in closed form: the program's and the document's are the same. -/
set_option linter.unusedVariables false
set_option linter.unusedSimpArgs false
namespace Go.Proofs.YtnomgmlfagiffaaDoor.T
open Go.RowKit Go.Lib Go.Proofs.YtnomgmlfagiffaaDoorW.PrintWords Go.Proofs.YtnomgmlfagiffaaDoor.Hs
def pushV (out : List Int) (t : Tm) : List Int := if isVar t && !out.contains t.f1 then out ++ [t.f1] else out
theorem varsL_cons (t : Tm) (l : List Tm) (out : List Int) : varsL (t :: l) out = varsL l (pushV out t) := rfl
theorem pushV_len (out : List Int) (t : Tm) : (pushV out t).length ≤ out.length + 1 := by
  unfold pushV
  split
  · simp
  · omega
theorem varsL_len : ∀ (l : List Tm) (out : List Int), (varsL l out).length ≤ out.length + l.length
  | [], out => Nat.le_refl _
  | t :: l, out => by
    rw [varsL_cons]
    have := varsL_len l (pushV out t)
    have := pushV_len out t
    simp only [List.length_cons]
    omega
theorem rd_int (s : List Int) (i : Nat) (h : i < s.length) : rd s (i : Int) = s[i] := by
  simp [rd, List.getD_eq_getElem?_getD, List.getElem?_eq_getElem h]
end Go.Proofs.YtnomgmlfagiffaaDoor.T
/- The laws' first call answers as the document fixes it. -/
namespace Go.Proofs.YtnomgmlfagiffaaDoor.T
open Go.RowKit Go.Lib Go.Proofs.YtnomgmlfagiffaaDoorW.PrintWords
theorem first_f : hearsaylaw02_first.f = some true := by
  have e0 : (⟨#[]⟩ : ByteArray).toList = [] := by rw [toList_data]
  have e1 : matchL ⟨#[112]⟩ [(⟨3, 0, ⟨#[]⟩⟩ : Tm)] ⟨#[112]⟩ [⟨1, 5, ⟨#[]⟩⟩] [] ⟨0, 0, ⟨#[]⟩⟩ ⟨0, 0, ⟨#[]⟩⟩ = ([⟨0, ⟨1, 5, ⟨#[]⟩⟩⟩], true) := by
    simp [matchL, stepM, isVar, eqT, getM, putM, startM, e0]
  unfold hearsaylaw02_first.f term_Match.f
  rw [e1, if_pos (by decide)]
  simp [rd_T44, e0]
end Go.Proofs.YtnomgmlfagiffaaDoor.T
/- TermMakes: the plain law. -/
set_option linter.unusedVariables false
set_option linter.unusedSimpArgs false
namespace Go.Proofs.YtnomgmlfagiffaaDoor.T
open Go.RowKit Go.Lib Go.Proofs.YtnomgmlfagiffaaDoorW.PrintWords Go.Proofs.YtnomgmlfagiffaaDoor.Hs
theorem var_is {t : Tm} (h : isVar t = true) : t = ⟨3, t.f1, ⟨#[]⟩⟩ := by
  unfold isVar at h
  simp only [Bool.and_eq_true, decide_eq_true_eq, beq_iff_eq] at h
  obtain ⟨h0, h1, h2⟩ := h
  cases t
  simp only at h0 h2
  subst h0
  congr 1
  exact ba_ext (by rw [h2, toList_data])
def saysT (s : List Bd) (v : Int) : Tm := (getM s v).getD ⟨3, v, ⟨#[]⟩⟩
theorem says_f (s : List Bd) (v : Int) (ls : s.length < smallN) (k : Nat) (hk : s.length + 1 ≤ k) : hearsaylaw02_says.f k s v = some ((saysT s v).f0, (saysT s v).f1, (saysT s v).f2) := by
  unfold hearsaylaw02_says.f saysT
  rw [look_f s v ls k hk]
  simp only [Option.bind_some, lookR]
  cases getM s v <;> simp
theorem rising_f (m : List Bd) (hm : Rising m) (lm : m.length < smallN) : ∀ k, m.length + 1 ≤ k → hearsaylaw02_rising.f k m = some true := by
  intro k hk
  unfold hearsaylaw02_rising.f
  suffices h : ∀ (n i k : Nat), 1 ≤ i → m.length ≤ i + n → n + 1 ≤ k → hearsaylaw02_rising.l0 k m (i : Int) = some true from h m.length 1 k (Nat.le_refl _) (by omega) hk
  intro n
  induction n with
  | zero =>
    intro i k h1 hi hk
    obtain ⟨k, rfl⟩ : ∃ j, k = j + 1 := ⟨k - 1, by omega⟩
    rw [hearsaylaw02_rising.l0, if_neg (by omega)]
  | succ n ih =>
    intro i k h1 hi hk
    obtain ⟨k, rfl⟩ : ∃ j, k = j + 1 := ⟨k - 1, by omega⟩
    rw [hearsaylaw02_rising.l0]
    by_cases h : (i : Int) < (m.length : Int)
    · obtain ⟨j, rfl⟩ : ∃ j, i = j + 1 := ⟨i - 1, by omega⟩
      have hw : wrap64 (((j + 1 : Nat) : Int) - 1) = ((j : Nat) : Int) := by
        simp only [smallN] at lm
        simp only [wrap64]
        omega
      have hlt : m[j].f0 < m[j + 1].f0 := List.pairwise_iff_getElem.1 hm j (j + 1) (by omega) (by omega) (by omega)
      rw [if_pos h, hw, if_pos (by omega), if_pos (by omega), if_pos (by omega), rd_at44 _ _ (show j < m.length by omega), rd_at44 _ _ (show j + 1 < m.length by omega), if_neg (by omega), wrap_succ (j + 1) (by omega), ih (j + 2) k (by omega) (by omega) (by omega)]
    · rw [if_neg h]
theorem get_grow (B : Tm → Tm) (v : Int) : ∀ (P : List Tm) (s0 : List Bd), getM (growB P (P.map B) s0) v = (getM s0 v).or (if (P.any fun t => isVar t && (t.f1 == v)) = true then some (B ⟨3, v, ⟨#[]⟩⟩) else none)
  | [], s0 => by simp [growB]
  | t :: P, s0 => by
    rw [List.map_cons, growB_cons, get_grow B v P, List.any_cons]
    cases hv : isVar t with
    | false => simp
    | true =>
      by_cases e : t.f1 = v
      · have et : t = ⟨3, v, ⟨#[]⟩⟩ := by rw [← e]; exact var_is hv
        cases hg : getM s0 v with
        | some w =>
          rw [e, hg]
          simp [hg]
        | none =>
          rw [e, hg]
          simp only [Option.isNone_none, Bool.and_self, if_true]
          rw [getM_app, hg, getM_cons, if_pos rfl]
          simp [← et]
      · have eb : (t.f1 == v) = false := by simpa using e
        rw [eb]
        by_cases hn : (getM s0 t.f1).isNone = true
        · rw [hn]
          simp only [Bool.and_self, if_true, Bool.and_false, Bool.false_or]
          rw [getM_app, getM_cons, if_neg e, getM_nil]
          simp
        · rw [Bool.eq_false_iff.2 hn]
          simp
theorem grow_become {s : List Bd} (s0 : List Bd) (h0 : s0 = [] ∨ s0 = s) (P : List Tm) : P.map (becomeT (growB P (P.map (becomeT s)) s0)) = P.map (becomeT s) := by
  apply List.map_congr_left
  intro t ht
  cases hv : isVar t with
  | false => unfold becomeT; rw [hv]; rfl
  | true =>
    have hany : (P.any fun x => isVar x && (x.f1 == t.f1)) = true := List.any_eq_true.2 ⟨t, ht, by simp [hv]⟩
    have e := get_grow (becomeT s) t.f1 P s0
    rw [hany, if_pos rfl, ← var_is hv] at e
    have e1 : becomeT (growB P (P.map (becomeT s)) s0) t = ((getM s0 t.f1).or (some (becomeT s t))).getD t := by
      rw [← e]
      conv => lhs; unfold becomeT
      rw [hv]; rfl
    rw [e1]
    rcases h0 with rfl | rfl
    · rw [getM_nil]; rfl
    · conv => rhs; unfold becomeT
      rw [hv]
      unfold becomeT
      rw [hv]
      cases getM s0 t.f1 <;> simp
theorem isNone_keys (s : List Bd) (v : Int) : (getM s v).isNone = !(s.map (·.f0)).contains v := by
  induction s with
  | nil => simp [getM_nil]
  | cons b s ih =>
    rw [getM_cons, List.map_cons, List.contains_cons]
    by_cases e : b.f0 = v
    · rw [if_pos e]; simp [e]
    · rw [if_neg e, ih, show (v == b.f0) = false by simp; exact fun h => e h.symm]; simp
theorem grow_keys : ∀ (P Q : List Tm) (s : List Bd), P.length = Q.length → (growB P Q s).map (·.f0) = varsL P (s.map (·.f0))
  | [], _, s, _ => by simp [growB, varsL]
  | _ :: _, [], _, h => by simp at h
  | t :: P, u :: Q, s, h => by
    rw [growB_cons, varsL_cons, grow_keys P Q _ (by simpa using h)]
    congr 1
    unfold pushV
    rw [isNone_keys]
    by_cases e : (isVar t && !(s.map (·.f0)).contains t.f1) = true
    · rw [if_pos e, if_pos e]; simp
    · rw [if_neg e, if_neg e]
theorem push_nodup {out : List Int} {t : Tm} (h : out.Nodup) : (pushV out t).Nodup := by
  unfold pushV
  by_cases e : (isVar t && !out.contains t.f1) = true
  · rw [if_pos e]
    simp only [Bool.and_eq_true, Bool.not_eq_true'] at e
    refine List.nodup_append.2 ⟨h, by simp, fun a ha b hb => ?_⟩
    rw [List.mem_singleton] at hb
    intro eab
    have : out.contains t.f1 = true := List.contains_iff_mem.2 (by rw [← hb, ← eab]; exact ha)
    rw [this] at e
    cases e.2
  · rw [if_neg e]; exact h
theorem vars_nodup : ∀ (P : List Tm) (out : List Int), out.Nodup → (varsL P out).Nodup
  | [], _, h => h
  | t :: P, out, h => by rw [varsL_cons]; exact vars_nodup P _ (push_nodup h)
theorem vars_mem (v : Int) : ∀ (P : List Tm) (out : List Int), v ∈ varsL P out → v ∈ out ∨ (P.any fun t => isVar t && (t.f1 == v)) = true
  | [], _, h => .inl h
  | t :: P, out, h => by
    rw [varsL_cons] at h
    rcases vars_mem v P _ h with h | h
    · unfold pushV at h
      by_cases e : (isVar t && !out.contains t.f1) = true
      · rw [if_pos e] at h
        rcases List.mem_append.1 h with h | h
        · exact .inl h
        · rw [List.mem_singleton] at h
          simp only [Bool.and_eq_true] at e
          exact .inr (by rw [List.any_cons, e.1, h]; simp)
      · rw [if_neg e] at h; exact .inl h
    · exact .inr (by rw [List.any_cons, h]; simp)
theorem putM_new {v : Int} {t : Tm} : ∀ {m : List Bd}, getM m v = none → (putM v t m).length = m.length + 1
  | [], _ => rfl
  | b :: m, h => by
    rw [getM_cons] at h
    by_cases e : b.f0 = v
    · rw [if_pos e] at h; cases h
    · rw [if_neg e] at h
      unfold putM
      split
      · rfl
      · first
        | rw [if_neg e, List.length_cons, putM_new h, List.length_cons]
        | rw [List.length_cons, putM_new h, List.length_cons]
theorem fold_len : ∀ (s m : List Bd), Rising m → (s.map (·.f0)).Nodup → (∀ b ∈ s, getM m b.f0 = none) → (s.foldl (fun m b => if (getM m b.f0).isSome then m else putM b.f0 b.f1 m) m).length = m.length + s.length
  | [], m, _, _, _ => rfl
  | b :: s, m, hm, hn, hf => by
    have hb := hf b (by simp)
    rw [List.map_cons, List.nodup_cons] at hn
    rw [List.foldl_cons, hb]
    simp only [Option.isSome_none, Bool.false_eq_true, if_false]
    rw [fold_len s _ (putM_rising hm) hn.2 (fun c hc => by
      rw [getM_put c.f0 hm, if_neg (fun e => hn.1 (by rw [e]; exact List.mem_map_of_mem hc))]
      exact hf c (by simp [hc])), putM_new hb, List.length_cons]
    omega
theorem start_len {s : List Bd} (h : (s.map (·.f0)).Nodup) : (startM s).length = s.length := by
  have := fold_len s [] List.Pairwise.nil h (fun _ _ => rfl)
  simpa [startM] using this
theorem says_grow {s : List Bd} (s0 : List Bd) (h0 : s0 = [] ∨ s0 = s) {P : List Tm} {v : Int} (hv : (P.any fun t => isVar t && (t.f1 == v)) = true) : saysT (startM (growB P (P.map (becomeT s)) s0)) v = saysT s v := by
  unfold saysT
  rw [getM_start, get_grow, if_pos hv]
  obtain ⟨t, _, ht⟩ := List.any_eq_true.1 hv
  simp only [Bool.and_eq_true, beq_iff_eq] at ht
  have et := var_is ht.1
  rw [ht.2] at et
  have hb : becomeT s ⟨3, v, ⟨#[]⟩⟩ = (getM s v).getD ⟨3, v, ⟨#[]⟩⟩ := by
    rw [← et]
    unfold becomeT
    rw [ht.1, ht.2]
    rfl
  rw [hb]
  rcases h0 with rfl | rfl
  · rw [getM_nil]; rfl
  · cases getM s0 v <;> rfl
theorem match_made (t : Tm) (nm : ByteArray) (l : List Tm) (s s0 : List Bd) (h0 : s0 = [] ∨ s0 = s) (hn : ¬ (isVar t = true ∧ (becomeT s t).f0 = 0)) : matchL nm l nm (l.map (becomeT s)) s0 t (becomeT s t) = (startM (growB (t :: l) ((t :: l).map (becomeT s)) s0), true) := by
  unfold matchL
  have hc : ¬ (nm.toList ≠ nm.toList ∨ l.length ≠ (l.map (becomeT s)).length ∨ (isVar t = true ∧ (becomeT s t).f0 = 0)) := by
    rintro (h | h | h)
    · exact h rfl
    · simp at h
    · exact hn h
  rw [if_neg hc]
  have e := stepM_grow (t :: l) ((t :: l).map (becomeT s)) s0 (by simp)
  rw [if_pos (grow_become s0 h0 (t :: l)), List.map_cons] at e
  rw [e]
  rfl
theorem makes_l1 (s : List Bd) (n o : List Bd) (vs : List Int) (ls : s.length < smallN) (ln : n.length < smallN) (lo : o.length < smallN) (lv : vs.length < smallN)
    (hs : ∀ v ∈ vs, saysT n v = saysT s v ∧ saysT o v = saysT s v) : ∀ (d i k : Nat), vs.length = i + d → s.length + n.length + o.length + 2 * d + 4 ≤ k → hearsaylaw02_TermMakes.l1 k s n o vs (i : Int) = some true := by
  intro d
  induction d with
  | zero =>
    intro i k hi hk
    obtain ⟨k, rfl⟩ : ∃ j, k = j + 1 := ⟨k - 1, by omega⟩
    rw [hearsaylaw02_TermMakes.l1, if_neg (by omega), first_f]
    rfl
  | succ d ih =>
    intro i k hi hk
    obtain ⟨k, rfl⟩ : ∃ j, k = j + 2 := ⟨k - 2, by omega⟩
    obtain ⟨h1, h2⟩ := hs vs[i] (List.getElem_mem (by omega))
    rw [hearsaylaw02_TermMakes.l1, if_pos (by omega), if_pos (by omega), rd_int _ _ (show i < vs.length by omega), says_f n _ ln _ (by omega), says_f s _ ls _ (by omega), says_f o _ lo _ (by omega)]
    simp only [Option.bind_some]
    rw [h1, h2]
    simp only [BEq.rfl, Bool.not_true, Bool.or_self, Bool.false_eq_true, if_false]
    rw [hearsaylaw02_TermMakes.j7, if_neg (by simp), wrap_succ i (by omega), ih (i + 1) k (by omega) (by omega)]
theorem makes_j3 (t : Tm) (nm : ByteArray) (l : List Tm) (s : List Bd) (ot : okT t = true) (ol : l.all okT = true) (os : s.all okB = true) (hsum : 2 * s.length + 2 * l.length + 2 < smallN) (k : Nat) (hk : 8 * s.length + 8 * l.length + 60 ≤ k) :
    hearsaylaw02_TermMakes.j3 k s false t.f0 t.f1 t.f2 nm l = some true := by
  obtain ⟨k, rfl⟩ : ∃ j, k = j + 3 := ⟨k - 3, by omega⟩
  have ob : okT (becomeT s t) = true := becomeT_ok os ot
  have om : (l.map (becomeT s)).all okT = true := by
    rw [List.all_eq_true]
    intro x hx
    obtain ⟨y, hy, rfl⟩ := List.mem_map.1 hx
    exact becomeT_ok os (List.all_eq_true.1 ol y hy)
  have hmf : ∀ s0 : List Bd, s0.all okB = true → s0.length < smallN → term_Match.f t.f0 t.f1 t.f2 nm l (becomeT s t).f0 (becomeT s t).f1 (becomeT s t).f2 nm (l.map (becomeT s)) s0 = some (matchL nm l nm (l.map (becomeT s)) s0 t (becomeT s t)) := fun s0 h1 h2 => by
    unfold term_Match.f
    rw [if_pos (by simp only [Bool.and_eq_true, decide_eq_true_eq, List.length_map]; exact ⟨⟨⟨⟨⟨⟨⟨ot, ob⟩, ol⟩, om⟩, h1⟩, by omega⟩, by omega⟩, h2⟩)]
  rw [hearsaylaw02_TermMakes.j3, if_neg (by simp), apply_f s t nm l (by omega) (by omega) _ (by omega)]
  simp only [Option.bind_some]
  rw [var_f]
  simp only [Option.bind_some]
  have hno : isVar t = true ∧ (becomeT s t).f0 = 0 → hearsaylaw02_TermMakes.j4 (k + 2) s true t.f0 t.f1 t.f2 nm l (becomeT s t).f0 (becomeT s t).f1 (becomeT s t).f2 nm (l.map (becomeT s)) = some true := fun h => by
    rw [hearsaylaw02_TermMakes.j4, if_pos rfl, hmf [] rfl (by simp [smallN])]
    have : matchL nm l nm (l.map (becomeT s)) [] t (becomeT s t) = ([], false) := by unfold matchL; rw [if_pos (.inr (.inr h))]
    rw [this]
    simp [first_f]
  have hyes : ¬ (isVar t = true ∧ (becomeT s t).f0 = 0) → hearsaylaw02_TermMakes.j4 (k + 2) s false t.f0 t.f1 t.f2 nm l (becomeT s t).f0 (becomeT s t).f1 (becomeT s t).f2 nm (l.map (becomeT s)) = some true := fun h => by
    have e0 := match_made t nm l s [] (.inl rfl) h
    have e1 := match_made t nm l s s (.inr rfl) h
    have k0 := grow_keys (t :: l) ((t :: l).map (becomeT s)) [] (by simp)
    have hlen : (startM (growB (t :: l) ((t :: l).map (becomeT s)) [])).length = (varsL (t :: l) []).length := by
      have hnd : ((growB (t :: l) ((t :: l).map (becomeT s)) []).map (·.f0)).Nodup := by rw [k0]; exact vars_nodup _ _ List.nodup_nil
      rw [start_len hnd, ← List.length_map (·.f0), k0]
      rfl
    have hl1 : (startM (growB (t :: l) ((t :: l).map (becomeT s)) s)).length ≤ s.length + l.length + 1 := by
      refine Nat.le_trans (startM_len _) (Nat.le_trans (growB_len _ _ _) (by simp; omega))
    have hlv := varsL_len (t :: l) []
    simp only [List.length_cons, List.length_nil] at hlv
    have hsay : ∀ v ∈ varsL (t :: l) [], saysT (startM (growB (t :: l) ((t :: l).map (becomeT s)) [])) v = saysT s v ∧ saysT (startM (growB (t :: l) ((t :: l).map (becomeT s)) s)) v = saysT s v := fun v hv => by
      rcases vars_mem v _ _ hv with h | h
      · cases h
      · exact ⟨says_grow [] (.inl rfl) h, says_grow s (.inr rfl) h⟩
    rw [hearsaylaw02_TermMakes.j4, if_neg (by simp), hmf [] rfl (by simp [smallN]), hmf s os (by omega), e0, e1]
    simp only [Option.bind_some, if_true]
    unfold term_Vars.f
    rw [if_pos (by omega)]
    simp only [Option.bind_some]
    rw [hlen, show (((varsL (t :: l) []).length : Int) != ((varsL (t :: l) []).length : Int)) = false by simp, hearsaylaw02_TermMakes.j5, if_neg (by simp)]
    exact makes_l1 s _ _ _ (by omega) (by rw [hlen]; omega) (by omega) (by omega) hsay (varsL (t :: l) []).length 0 k (by omega) (by rw [hlen]; omega)
  by_cases hv : isVar t = true
  · rw [if_pos hv]
    by_cases hz : (becomeT s t).f0 = 0
    · rw [show ((becomeT s t).f0 == 0) = true by simp [hz]]
      exact hno ⟨hv, hz⟩
    · rw [show ((becomeT s t).f0 == 0) = false by simp [hz]]
      exact hyes (fun h => hz h.2)
  · rw [if_neg hv]
    exact hyes (fun h => hv h.1)
theorem makes_l0 (t : Tm) (nm : ByteArray) (l : List Tm) (s M : List Bd) (is : Bool) (ot : okT t = true) (ol : l.all okT = true) (os : s.all okB = true) (hsum : 2 * s.length + 2 * l.length + 2 < smallN) (lM : M.length < smallN)
    (hsay : is = true → ∀ b ∈ s, saysT M b.f0 = saysT s b.f0) (hM : is = false → M = []) : ∀ (d i k : Nat), s.length = i + d → M.length + 8 * s.length + 8 * l.length + 2 * d + 64 ≤ k → hearsaylaw02_TermMakes.l0 k s M is (i : Int) t.f0 t.f1 t.f2 nm l = some true := by
  intro d
  cases his : is with
  | false =>
    intro i k hi hk
    obtain ⟨k, rfl⟩ : ∃ j, k = j + 2 := ⟨k - 2, by omega⟩
    rw [hearsaylaw02_TermMakes.l0, if_neg (by simp), hearsaylaw02_TermMakes.j2, if_neg (by simp), if_neg (by simp), hM his]
    exact makes_j3 t nm l s ot ol os hsum k (by omega)
  | true =>
    induction d with
    | zero =>
      intro i k hi hk
      obtain ⟨k, rfl⟩ : ∃ j, k = j + 2 := ⟨k - 2, by omega⟩
      rw [hearsaylaw02_TermMakes.l0, if_pos rfl, hearsaylaw02_TermMakes.j2, if_neg (by simp; omega), if_pos rfl]
      exact makes_j3 t nm l s ot ol os hsum k (by omega)
    | succ d ih =>
      intro i k hi hk
      obtain ⟨k, rfl⟩ : ∃ j, k = j + 2 := ⟨k - 2, by omega⟩
      rw [hearsaylaw02_TermMakes.l0, if_pos rfl, hearsaylaw02_TermMakes.j2, if_pos (by simp; omega), if_pos (by omega), if_pos (by omega), rd_at44 _ _ (show i < s.length by omega), says_f M _ lM _ (by omega), says_f s _ (by omega) _ (by omega)]
      simp only [Option.bind_some]
      rw [hsay his s[i] (List.getElem_mem (by omega))]
      simp only [BEq.rfl, Bool.not_true, Bool.or_self, Bool.false_eq_true, if_false]
      rw [wrap_succ i (by omega), ih (i + 1) k (by omega) (by omega)]
theorem becomeT_start (G : List Bd) (t : Tm) : becomeT (startM G) t = becomeT G t := by
  unfold becomeT
  rw [getM_start]
theorem makes_f (t : Tm) (nm : ByteArray) (l : List Tm) (u : Tm) (nn : ByteArray) (m : List Tm) (s : List Bd) (ot : okT t = true) (ol : l.all okT = true) (ou : okT u = true) (om : m.all okT = true) (os : s.all okB = true)
    (hsum : 4 * s.length + 4 * l.length + 4 < smallN) (lm : m.length < smallN) : ∃ k, hearsaylaw02_TermMakes.f k t.f0 t.f1 t.f2 nm l u.f0 u.f1 u.f2 nn m s = some true := by
  refine ⟨16 * s.length + 16 * l.length + m.length + 100, ?_⟩
  unfold hearsaylaw02_TermMakes.f term_Match.f
  rw [if_pos (by simp only [Bool.and_eq_true, decide_eq_true_eq]; exact ⟨⟨⟨⟨⟨⟨⟨ot, ou⟩, ol⟩, om⟩, os⟩, by omega⟩, lm⟩, by omega⟩)]
  simp only [Option.bind_some]
  have hbad : matchL nm l nn m s t u = ([], false) → (if (matchL nm l nn m s t u).2 = true then (none : Option Bool) else hearsaylaw02_TermMakes.j0 (16 * s.length + 16 * l.length + m.length + 100) s (matchL nm l nn m s t u).1 (matchL nm l nn m s t u).2 false t.f0 t.f1 t.f2 nm l) = some true := fun e => by
    rw [e]
    simp only [Bool.false_eq_true, if_false]
    obtain ⟨k, hk⟩ : ∃ j, 16 * s.length + 16 * l.length + m.length + 100 = j + 1 := ⟨_, rfl⟩
    rw [hk, hearsaylaw02_TermMakes.j0, if_neg (by simp)]
    exact makes_l0 t nm l s [] false ot ol os (by omega) (by simp [smallN]) (fun h => by cases h) (fun _ => rfl) s.length 0 k (by omega) (by simp; omega)
  by_cases hc : nm.toList ≠ nn.toList ∨ l.length ≠ m.length ∨ (isVar t = true ∧ u.f0 = 0)
  · have e : matchL nm l nn m s t u = ([], false) := by unfold matchL; rw [if_pos hc]
    have := hbad e
    rw [e] at this ⊢
    simpa using this
  · have hl : l.length = m.length := Decidable.byContradiction fun h => hc (.inr (.inl h))
    have hnn : nm = nn := ba_ext (Decidable.byContradiction fun h => hc (.inl h))
    have eg := stepM_grow (t :: l) (u :: m) s (by simp [hl])
    by_cases hq : (t :: l).map (becomeT (growB (t :: l) (u :: m) s)) = u :: m
    · rw [if_pos hq] at eg
      have e : matchL nm l nn m s t u = (startM (growB (t :: l) (u :: m) s), true) := by unfold matchL; rw [if_neg hc, eg]
      have hlM : (startM (growB (t :: l) (u :: m) s)).length ≤ s.length + l.length + 1 := by
        refine Nat.le_trans (startM_len _) (Nat.le_trans (growB_len _ _ _) (by simp; omega))
      rw [e]
      simp only [if_true]
      rw [rising_f _ (startM_rising _) (by omega) _ (by omega)]
      simp only [Option.bind_some, if_true]
      rw [apply_f _ t nm l (by omega) (by omega) _ (by omega)]
      simp only [Option.bind_some]
      rw [List.map_cons] at hq
      injection hq with hq1 hq2
      rw [becomeT_start, hq1, List.map_congr_left (fun x _ => becomeT_start _ x), hq2, ← hnn, same_self u nm m lm _ (by omega)]
      simp only [Option.bind_some, Bool.not_true]
      obtain ⟨k, hk⟩ : ∃ j, 16 * s.length + 16 * l.length + m.length + 100 = j + 1 := ⟨_, rfl⟩
      rw [hk, hearsaylaw02_TermMakes.j0, if_neg (by simp)]
      refine makes_l0 t nm l s _ true ot ol os (by omega) (by omega) (fun _ b hb => ?_) (fun h => by cases h) s.length 0 k (by omega) (by omega)
      obtain ⟨w, hw⟩ := getM_has hb
      unfold saysT
      rw [getM_start, growB_keeps _ _ _ hw, hw]
    · rw [if_neg hq] at eg
      have e : matchL nm l nn m s t u = ([], false) := by unfold matchL; rw [if_neg hc, eg]
      have := hbad e
      rw [e] at this ⊢
      simpa using this
end Go.Proofs.YtnomgmlfagiffaaDoor.T
