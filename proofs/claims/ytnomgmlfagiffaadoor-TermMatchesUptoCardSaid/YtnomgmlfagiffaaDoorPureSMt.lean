/- The document's Settled answers the map of the binding. -/
import Derived.Test.YtnomgmlfagiffaaDoorPureMMt
import Derived.Test.YtnomgmlfagiffaaDoorT12Mt
set_option linter.unusedVariables false
set_option linter.unusedSimpArgs false
namespace Go.Proofs.YtnomgmlfagiffaaDoor.T
open Go.RowKit Go.Lib Go.Proofs.YtnomgmlfagiffaaDoorW.PrintWords Go.Proofs.YtnomgmlfagiffaaDoor.Hs
def freshV (out : List Bd) (v : Int) : Prop := ∀ b, out.getLast? = some b → b.f0 < v
/-- What the scan knows ahead of place i: at is the first of the least fresh ones, -1 if there is none. -/
def ScanInv (s out : List Bd) (i : Nat) (at_ : Int) : Prop :=
  (at_ = -1 ∧ ∀ (j : Nat) (h : j < s.length), j < i → ¬ freshV out s[j].f0) ∨
  ∃ (j : Nat) (h : j < s.length), at_ = j ∧ j < i ∧ freshV out s[j].f0 ∧ (∀ (j' : Nat) (h' : j' < s.length), j' < i → freshV out s[j'].f0 → s[j].f0 ≤ s[j'].f0) ∧ ∀ (j' : Nat) (h' : j' < s.length), j' < j → s[j'].f0 ≠ s[j].f0
/-- What the scan does at its end. -/
def scanEnd (k : Nat) (s out : List Bd) (at_ : Int) : Option (List Bd) :=
  if at_ < 0 then some out else if 0 ≤ at_ then (if at_ < (s.length : Int) then (if out.length < 3518437208883 then hearsayref02_Settled.l0 k s (out ++ [⟨(rd_T44 s at_).f0, ⟨(rd_T44 s at_).f1.f0, (rd_T44 s at_).f1.f1, (rd_T44 s at_).f1.f2⟩⟩]) else none) else none) else none
theorem inv_skip {s out : List Bd} {i : Nat} {a : Int} (h : ScanInv s out i a) (hi : i < s.length) (hf : ¬ freshV out s[i].f0) : ScanInv s out (i + 1) a := by
  rcases h with ⟨ha, h⟩ | ⟨j, hj, ha, hji, hfr, hmin, hfst⟩
  · refine .inl ⟨ha, fun j' h' hj' => ?_⟩
    rcases Nat.lt_or_ge j' i with g | g
    · exact h j' h' g
    · obtain rfl : j' = i := by omega
      exact hf
  · refine .inr ⟨j, hj, ha, by omega, hfr, fun j' h' hj' hfr' => ?_, hfst⟩
    rcases Nat.lt_or_ge j' i with g | g
    · exact hmin j' h' g hfr'
    · obtain rfl : j' = i := by omega
      exact absurd hfr' hf
theorem inv_first {s out : List Bd} {i : Nat} (h : ScanInv s out i (-1)) (hi : i < s.length) (hf : freshV out s[i].f0) : ScanInv s out (i + 1) i := by
  rcases h with ⟨_, h⟩ | ⟨j, hj, ha, _⟩
  · refine .inr ⟨i, hi, rfl, by omega, hf, fun j' h' hj' hfr' => ?_, fun j' h' hj' he => h j' h' hj' (by rw [he]; exact hf)⟩
    rcases Nat.lt_or_ge j' i with g | g
    · exact absurd hfr' (h j' h' g)
    · obtain rfl : j' = i := by omega
      exact Int.le_refl _
  · omega
theorem inv_less {s out : List Bd} {i j : Nat} (h : ScanInv s out i (j : Int)) (hi : i < s.length) (hj : j < s.length) (hf : freshV out s[i].f0) (hl : s[i].f0 < s[j].f0) : ScanInv s out (i + 1) i := by
  rcases h with ⟨ha, _⟩ | ⟨j1, hj1, ha, hji, hfr, hmin, hfst⟩
  · omega
  · obtain rfl : j1 = j := by omega
    refine .inr ⟨i, hi, rfl, by omega, hf, fun j' h' hj' hfr' => ?_, fun j' h' hj' he => ?_⟩
    · rcases Nat.lt_or_ge j' i with g | g
      · have := hmin j' h' g hfr'; omega
      · obtain rfl : j' = i := by omega
        exact Int.le_refl _
    · have := hmin j' h' hj' (by rw [he]; exact hf)
      omega
theorem inv_keep {s out : List Bd} {i j : Nat} (h : ScanInv s out i (j : Int)) (hi : i < s.length) (hj : j < s.length) (hl : ¬ s[i].f0 < s[j].f0) : ScanInv s out (i + 1) j := by
  rcases h with ⟨ha, _⟩ | ⟨j1, hj1, ha, hji, hfr, hmin, hfst⟩
  · omega
  · obtain rfl : j1 = j := by omega
    refine .inr ⟨j1, hj1, rfl, by omega, hfr, fun j' h' hj' hfr' => ?_, hfst⟩
    rcases Nat.lt_or_ge j' i with g | g
    · exact hmin j' h' g hfr'
    · obtain rfl : j' = i := by omega
      omega
theorem scan_f (s out : List Bd) (ls : s.length < 4398046511104) (lo : out.length < 4398046511104) : ∀ (n i : Nat) (a : Int), s.length = i + n → ScanInv s out i a →
    ∃ a', ScanInv s out s.length a' ∧ ∀ k, hearsayref02_Settled.l1 (k + n + 1) s out a (i : Int) = scanEnd k s out a' := by
  intro n
  induction n with
  | zero =>
    intro i a hi h
    obtain rfl : i = s.length := by omega
    refine ⟨a, h, fun k => ?_⟩
    rw [show k + 0 + 1 = k + 1 from rfl, hearsayref02_Settled.l1, if_neg (by omega)]
    rfl
  | succ n ih =>
    intro i a hi h
    have hi' : i < s.length := by omega
    have hw : wrap64 ((i : Int) + 1) = ((i + 1 : Nat) : Int) := by unfold wrap64; omega
    have hgo : ∀ a1, ScanInv s out (i + 1) a1 → (∀ k, hearsayref02_Settled.l1 (k + (n + 1) + 1) s out a (i : Int) = hearsayref02_Settled.l1 (k + n + 1) s out a1 ((i + 1 : Nat) : Int)) →
        ∃ a', ScanInv s out s.length a' ∧ ∀ k, hearsayref02_Settled.l1 (k + (n + 1) + 1) s out a (i : Int) = scanEnd k s out a' := by
      intro a1 h1 hk
      obtain ⟨a', h', hs⟩ := ih (i + 1) a1 (by omega) h1
      exact ⟨a', h', fun k => (hk k).trans (hs k)⟩
    have hrd := rd_at44 s i hi'
    have ha : a = -1 ∨ ∃ (j : Nat), j < s.length ∧ a = (j : Int) := by
      rcases h with ⟨ha, _⟩ | ⟨j, hj, ha, _⟩
      · exact .inl ha
      · exact .inr ⟨j, hj, ha⟩
    by_cases h0 : out.length = 0
    · have hout : out = [] := List.eq_nil_of_length_eq_zero h0
      have hf : freshV out s[i].f0 := by rw [hout]; intro b hb; simp at hb
      rcases ha with rfl | ⟨j, hj, rfl⟩
      · refine hgo i (inv_first h hi' hf) fun k => ?_
        rw [show k + (n + 1) + 1 = (k + n + 1) + 1 from by omega, hearsayref02_Settled.l1, if_pos (by omega), if_pos (by omega), if_pos (by omega), hw]
      · have hrj := rd_at44 s j hj
        by_cases hl : s[i].f0 < s[j].f0
        · refine hgo i (inv_less h hi' hj hf hl) fun k => ?_
          rw [show k + (n + 1) + 1 = (k + n + 1) + 1 from by omega, hearsayref02_Settled.l1, if_pos (by omega), if_pos (by omega), if_neg (by omega), if_pos (by omega), if_pos (by omega), if_pos (by omega), hrd, hrj, if_pos hl, hw]
        · refine hgo j (inv_keep h hi' hj hl) fun k => ?_
          rw [show k + (n + 1) + 1 = (k + n + 1) + 1 from by omega, hearsayref02_Settled.l1, if_pos (by omega), if_pos (by omega), if_neg (by omega), if_pos (by omega), if_pos (by omega), if_pos (by omega), hrd, hrj, if_neg hl, hw]
    · have hwl : wrap64 ((out.length : Int) - 1) = ((out.length - 1 : Nat) : Int) := by unfold wrap64; omega
      have hlast : out.getLast? = some (rd_T44 out ((out.length - 1 : Nat) : Int)) := by
        rw [rd_at44 out (out.length - 1) (by omega), List.getLast?_eq_getElem?, List.getElem?_eq_getElem (by omega)]
      by_cases hg : s[i].f0 > (rd_T44 out ((out.length - 1 : Nat) : Int)).f0
      · have hf : freshV out s[i].f0 := by intro b hb; rw [hlast] at hb; injection hb with hb; rw [← hb]; exact hg
        rcases ha with rfl | ⟨j, hj, rfl⟩
        · refine hgo i (inv_first h hi' hf) fun k => ?_
          rw [show k + (n + 1) + 1 = (k + n + 1) + 1 from by omega, hearsayref02_Settled.l1, if_pos (by omega), if_neg (by omega), if_pos (by omega), hwl, if_pos (by omega), if_pos (by omega), hrd, if_pos hg, if_pos (by omega), hw]
        · have hrj := rd_at44 s j hj
          by_cases hl : s[i].f0 < s[j].f0
          · refine hgo i (inv_less h hi' hj hf hl) fun k => ?_
            rw [show k + (n + 1) + 1 = (k + n + 1) + 1 from by omega, hearsayref02_Settled.l1, if_pos (by omega), if_neg (by omega), if_pos (by omega), hwl, if_pos (by omega), if_pos (by omega), hrd, if_pos hg, if_neg (by omega), if_pos (by omega), if_pos (by omega), hrj, if_pos hl, hw]
          · refine hgo j (inv_keep h hi' hj hl) fun k => ?_
            rw [show k + (n + 1) + 1 = (k + n + 1) + 1 from by omega, hearsayref02_Settled.l1, if_pos (by omega), if_neg (by omega), if_pos (by omega), hwl, if_pos (by omega), if_pos (by omega), hrd, if_pos hg, if_neg (by omega), if_pos (by omega), if_pos (by omega), hrj, if_neg hl, hw]
      · have hf : ¬ freshV out s[i].f0 := fun h => hg (h _ hlast)
        refine hgo a (inv_skip h hi' hf) fun k => ?_
        rw [show k + (n + 1) + 1 = (k + n + 1) + 1 from by omega, hearsayref02_Settled.l1, if_pos (by omega), if_neg (by omega), if_pos (by omega), hwl, if_pos (by omega), if_pos (by omega), hrd, if_neg hg, hw]
theorem putM_len (v : Int) (t : Tm) : ∀ m : List Bd, (putM v t m).length ≤ m.length + 1
  | [] => by simp [putM]
  | c :: r => by
    have := putM_len v t r
    unfold putM
    split
    · simp
    · split
      · simp
      · simp only [List.length_cons]; omega
theorem startM_len (s : List Bd) : (startM s).length ≤ s.length := by
  unfold startM
  suffices h : ∀ m : List Bd, (s.foldl (fun m b => if (getM m b.f0).isSome then m else putM b.f0 b.f1 m) m).length ≤ m.length + s.length from by simpa using h []
  induction s with
  | nil => intro m; simp
  | cons b r ih =>
    intro m
    rw [List.foldl_cons]
    refine Nat.le_trans (ih _) ?_
    have := putM_len b.f0 b.f1 m
    simp only [List.length_cons]
    split <;> omega
theorem getM_first : ∀ (s : List Bd) (j : Nat) (h : j < s.length), (∀ (j' : Nat) (h' : j' < s.length), j' < j → s[j'].f0 ≠ s[j].f0) → getM s s[j].f0 = some s[j].f1
  | b :: r, 0, _, _ => by rw [getM_cons]; simp
  | b :: r, j + 1, h, hf => by
    have h1 := hf 0 (by simp) (by omega)
    rw [getM_cons, if_neg (by simpa using h1)]
    have hj : j < r.length := by simpa using h
    have := getM_first r j hj (fun j' h' hj' => by have := hf (j' + 1) (by simp; omega) (by omega); simpa using this)
    simpa using this
theorem getM_has {s : List Bd} {b : Bd} (hb : b ∈ s) : ∃ t, getM s b.f0 = some t := by
  induction s with
  | nil => simp at hb
  | cons c r ih =>
    rw [getM_cons]
    by_cases e : c.f0 = b.f0
    · exact ⟨_, if_pos e⟩
    · rw [if_neg e]
      rcases List.mem_cons.1 hb with rfl | hb
      · exact absurd rfl e
      · exact ih hb
theorem settled_f (s : List Bd) (ls : s.length < 3298534883328) : ∃ K, ∀ k, K ≤ k → hearsayref02_Settled.f k s = some (startM s) := by
  unfold hearsayref02_Settled.f
  have hlen := startM_len s
  have hr := startM_rising s
  suffices h : ∀ (rest out : List Bd), startM s = out ++ rest → ∃ K, ∀ k, K ≤ k → hearsayref02_Settled.l0 k s out = some (startM s) from h (startM s) [] rfl
  intro rest
  induction rest with
  | nil =>
    intro out ho
    have hol : out.length ≤ s.length := by rw [List.append_nil] at ho; rw [← ho]; exact hlen
    obtain ⟨a', h', hs⟩ := scan_f s out (by omega) (by omega) s.length 0 (-1) (by omega) (.inl ⟨rfl, fun j h hj => by omega⟩)
    rcases h' with ⟨rfl, _⟩ | ⟨j, hj, rfl, _, hf, _⟩
    · refine ⟨s.length + 2, fun k hk => ?_⟩
      obtain ⟨k, rfl⟩ : ∃ m, k = m + s.length + 1 + 1 := ⟨k - s.length - 2, by omega⟩
      rw [hearsayref02_Settled.l0]
      have := hs k
      simp only [Int.natCast_zero] at this
      rw [this]
      unfold scanEnd
      rw [if_pos (by omega), ho]
      simp
    · exfalso
      obtain ⟨t, ht⟩ := getM_has (List.getElem_mem hj)
      have hin := getM_mem (m := startM s) (by rw [getM_start]; exact ht)
      rw [ho, List.append_nil] at hin
      rw [ho, List.append_nil] at hr
      have hne : out ≠ [] := fun h => by rw [h] at hin; simp at hin
      have hl := hf _ (List.getLast?_eq_some_getLast hne)
      have hsplit := List.dropLast_concat_getLast hne
      rw [← hsplit] at hin hr
      rcases List.mem_append.1 hin with h | h
      · have := (List.pairwise_append.1 hr).2.2 _ h _ (List.mem_singleton.2 rfl)
        simp only at this
        omega
      · have := List.mem_singleton.1 h
        rw [← this] at hl
        simp only at hl
        omega
  | cons b r ih =>
    intro out ho
    have hol : out.length < s.length := by have := congrArg List.length ho; simp at this; omega
    have hr2 := hr
    rw [ho] at hr2
    obtain ⟨p1, p2, p3⟩ := List.pairwise_append.1 hr2
    have hbM : b ∈ startM s := by rw [ho]; simp
    have hgb : getM s b.f0 = some b.f1 := by rw [← getM_start]; exact rising_getM hr hbM
    have hbs := getM_mem hgb
    obtain ⟨j0, hj0, e0⟩ := List.getElem_of_mem hbs
    have hfb : freshV out b.f0 := fun z hz => p3 z (List.mem_of_getLast? hz) b (List.mem_cons_self)
    have ef : s[j0].f0 = b.f0 := by rw [e0]
    obtain ⟨a', h', hs⟩ := scan_f s out (by omega) (by omega) s.length 0 (-1) (by omega) (.inl ⟨rfl, fun j h hj => by omega⟩)
    rcases h' with ⟨rfl, hno⟩ | ⟨j, hj, rfl, _, hf, hmin, hfst⟩
    · exact absurd (by rw [ef]; exact hfb) (hno j0 hj0 hj0)
    · have hle := hmin j0 hj0 hj0 (by rw [ef]; exact hfb)
      obtain ⟨t, ht⟩ := getM_has (List.getElem_mem hj)
      have hin := getM_mem (m := startM s) (by rw [getM_start]; exact ht)
      rw [ho] at hin
      have hge : b.f0 ≤ s[j].f0 := by
        rcases List.mem_append.1 hin with h | h
        · exfalso
          have hne : out ≠ [] := fun h2 => by rw [h2] at h; simp at h
          have hl := hf _ (List.getLast?_eq_some_getLast hne)
          have hsplit := List.dropLast_concat_getLast hne
          rw [← hsplit] at h p1
          rcases List.mem_append.1 h with h | h
          · have := (List.pairwise_append.1 p1).2.2 _ h _ (List.mem_singleton.2 rfl)
            simp only at this
            omega
          · have := List.mem_singleton.1 h
            rw [← this] at hl
            simp only at hl
            omega
        · rcases List.mem_cons.1 h with h | h
          · rw [← h]; exact Int.le_refl _
          · have := (List.pairwise_cons.1 p2).1 _ h
            simp only at this
            omega
      have e1 : s[j].f0 = b.f0 := by omega
      have e2 : s[j] = b := by
        have h1 := getM_first s j hj hfst
        rw [e1, hgb] at h1
        injection h1 with h1
        cases h : s[j] with
        | mk x y =>
          rw [h] at e1 h1
          cases b
          simp only at e1 h1
          rw [e1, h1]
      obtain ⟨K, hK⟩ := ih (out ++ [b]) (by rw [ho]; simp)
      refine ⟨K + s.length + 2, fun k hk => ?_⟩
      obtain ⟨k, rfl⟩ : ∃ m, k = m + s.length + 1 + 1 := ⟨k - s.length - 2, by omega⟩
      rw [hearsayref02_Settled.l0]
      have := hs k
      simp only [Int.natCast_zero] at this
      rw [this]
      unfold scanEnd
      rw [if_neg (by omega), if_pos (by omega), if_pos (by omega), if_pos (by omega), rd_at44 s j hj, e2]
      exact hK k (by omega)
end Go.Proofs.YtnomgmlfagiffaaDoor.T
