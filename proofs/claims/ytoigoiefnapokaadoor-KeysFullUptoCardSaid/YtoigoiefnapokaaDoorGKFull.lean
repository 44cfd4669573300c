/- A ring in which the names k.. are enrolled. -/
import Derived.Test.YtoigoiefnapokaaDoorGKNames
set_option linter.unusedVariables false
set_option linter.unusedSimpArgs false
namespace Go.Proofs.YtoigoiefnapokaaDoor.T
open Go.RowKit Go.Maps Go.MuLone Go.Proofs.YtoigoiefnapokaaDoorW.PrintWords Go.Proofs.YtoigoiefnapokaaDoorW.PrintLast
def kn (i : Nat) : ByteArray := ⟨#[107, UInt8.ofNat (65 + i / 16), UInt8.ofNat (65 + i % 16)]⟩
theorem kn_size (i : Nat) : (kn i).size = 3 := rfl
theorem kn_ok (i : Nat) : okS (kn i) := by unfold okS; rw [kn_size]; decide
theorem kn_inj {i j : Nat} (hi : i < 256) (hj : j < 256) (h : kn i = kn j) : i = j := by
  unfold kn at h
  simp only [ByteArray.mk.injEq] at h
  have h2 := congrArg Array.toList h
  simp only [List.cons.injEq, and_true, true_and] at h2
  obtain ⟨h3, h4⟩ := h2
  have h5 := congrArg UInt8.toNat h3
  have h6 := congrArg UInt8.toNat h4
  simp only [UInt8.toNat_ofNat'] at h5 h6
  omega
open Classical in
noncomputable def gn (b : List Int) (i : Nat) (s : ByteArray) : Option (List Int) := if ∃ j : Nat, j < i ∧ s = kn j then some (macf b (bytesOf s)) else none
theorem gn_zero (b : List Int) : gn b 0 = fun _ => none := by
  funext s
  unfold gn
  rw [if_neg]
  rintro ⟨j, hj, _⟩
  omega
theorem gn_succ (b : List Int) (i : Nat) : upd (gn b i) (kn i) (macf b (bytesOf (kn i))) = gn b (i + 1) := by
  funext s
  unfold upd gn
  by_cases h : s = kn i
  · subst h
    rw [if_pos rfl, if_pos ⟨i, by omega, rfl⟩]
  · rw [if_neg h]
    by_cases h2 : ∃ j : Nat, j < i ∧ s = kn j
    · obtain ⟨j, hj, e⟩ := h2
      rw [if_pos ⟨j, hj, e⟩, if_pos ⟨j, by omega, e⟩]
    · rw [if_neg h2, if_neg]
      rintro ⟨j, hj, e⟩
      by_cases hji : j = i
      · subst hji; exact h e
      · exact h2 ⟨j, by omega, e⟩
theorem gn_new (b : List Int) (i : Nat) (hi : i < 256) : gn b i (kn i) = none := by
  unfold gn
  rw [if_neg]
  rintro ⟨j, hj, e⟩
  have := kn_inj hi (by omega) e
  omega
theorem gn_is (b : List Int) (i : Nat) : ∀ s v, gn b i s = some v → IsD v := by
  intro s v h
  unfold gn at h
  split at h
  · injection h with h; subst h; exact mac_is _ _
  · cases h
theorem gn_first (b : List Int) {i : Nat} (hi : 0 < i) : gn b i (kn 0) = some (macf b (bytesOf (kn 0))) := by
  unfold gn
  rw [if_pos ⟨0, hi, rfl⟩]
structure Full (sec : List Int) (i : Nat) (y : RV) (w W : World) : Prop where
  at_ : y.At W w.heap.size 0
  keys : Says y.Dk klS okS (gn sec i)
  nk : y.nk = i
  sz : Maps.size y.Dk = i
  sec : y.sec = sec
  below : Below w.heap.size w W
section
variable {sec : List Int} {i : Nat} {y : RV} {w W W' : World}
theorem Full.low (h : Full sec i y w W) (hb : Below W.heap.size W W') : Full sec i y w W' := ⟨h.at_.below hb, h.keys, h.nk, h.sz, h.sec, below_step h.below hb⟩
theorem Full.new (h : Full sec i y w W) (hi : i < 256) {b : Nat} (hb : y.b = b) (hF : LaidF w) (hL : LaidR w) :
    Calls Tryd.prog 14 #[.pointer (some ⟨b, 0, none⟩), .string (kn i)] W fun e w' => e = .returned (.int .i64 0) ∧ Full sec (i + 1) (y.enrolled (kn i) (macf sec (bytesOf (kn i)))) w w' := by
  subst hb
  refine (enroll_calls w W y h.at_ h.below (gn sec i) h.keys (kn i) (by rw [kn_size]; decide) (by rw [kn_size]; decide) (gn_new sec i hi) hF hL (by rw [h.nk]; exact hi)).mono ?_
  rintro e w' ⟨rfl, _, ha, hb⟩
  rw [h.sec] at ha
  have hp := h.keys.put h.at_.keys.isMap klS_key klS_inj (kn_ok i) (macf sec (bytesOf (kn i)))
  rw [gn_succ] at hp
  refine ⟨rfl, ha, hp, by show y.nk + 1 = i + 1; rw [h.nk], ?_, h.sec, hb⟩
  show Maps.size (y.Dk.put _ _) = i + 1
  rw [size_put (h.at_.keys.tidy lawS), h.keys.has _ (kn_ok i), gn_new sec i hi, h.sz]
  rfl
theorem Full.bad (h : Full sec i y w W) {b : Nat} (hb : y.b = b) (s : ByteArray) (hs : s.size = 0 ∨ 64 < s.size) :
    Calls Tryd.prog 14 #[.pointer (some ⟨b, 0, none⟩), .string s] W fun e w' => e = .returned (.int .i64 36) ∧ Below W.heap.size W w' := by
  subst hb
  exact enroll_bad W y _ h.at_ s hs
theorem Full.old (h : Full sec i y w W) {b : Nat} (hb : y.b = b) (s : ByteArray) (h0 : 0 < s.size) (h1 : s.size ≤ 64) (v : List Int) (hv : gn sec i s = some v) :
    Calls Tryd.prog 14 #[.pointer (some ⟨b, 0, none⟩), .string s] W fun e w' => e = .returned (.int .i64 181) ∧ Below W.heap.size W w' := by
  subst hb
  exact enroll_old W y _ h.at_ _ h.keys (gn_is sec i) s h0 h1 v hv
theorem Full.full (h : Full sec 256 y w W) {b : Nat} (hb : y.b = b) (s : ByteArray) (h0 : 0 < s.size) (h1 : s.size ≤ 64) (hv : gn sec 256 s = none) :
    Calls Tryd.prog 14 #[.pointer (some ⟨b, 0, none⟩), .string s] W fun e w' => e = .returned (.int .i64 183) ∧ Below W.heap.size W w' := by
  subst hb
  exact enroll_full W y _ h.at_ _ h.keys s h0 h1 hv (by rw [h.sz]; decide)
theorem Full.has (h : Full sec i y w W) {b : Nat} (hb : y.b = b) (s : ByteArray) (ho : okS s) (r : Bool) (hr : (gn sec i s).isSome = r) :
    Calls Tryd.prog 15 #[.pointer (some ⟨b, 0, none⟩), .string s] W fun e w' => e = .returned (.bool r) ∧ Below W.heap.size W w' := by
  subst hb
  subst hr
  exact has_calls W y _ h.at_ _ h.keys (gn_is sec i) s ho
theorem Full.names (h : Full sec 256 y w W) {b : Nat} (hb : y.b = b) :
    Calls Tryd.prog 16 #[.pointer (some ⟨b, 0, none⟩)] W fun e w' => ∃ (A : Option Addr) (c : Nat), e = .returned (.slice A 256 c) ∧ Below W.heap.size W w' := by
  subst hb
  have := nlist_calls W y _ h.at_ (by rw [h.nk]; decide) (by rw [h.sz]; decide)
  rw [h.sz] at this
  exact this
end
end Go.Proofs.YtoigoiefnapokaaDoor.T
