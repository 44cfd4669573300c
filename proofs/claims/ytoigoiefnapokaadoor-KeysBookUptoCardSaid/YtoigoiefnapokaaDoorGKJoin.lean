/- What code leaves, shown once for several ways; rows begun. -/
import Derived.Test.YtoigoiefnapokaaDoorGKKeys
set_option linter.unusedVariables false
set_option linter.unusedSimpArgs false
namespace Go.Proofs.YtoigoiefnapokaaDoor.T
open Go.RowKit Go.Maps Go.MuLone Go.Proofs.YtoigoiefnapokaaDoorW.PrintWords Go.Proofs.YtoigoiefnapokaaDoorW.PrintLast
/-- Code that ends normally, whatever it leaves in the temporaries ks: what follows is shown once. -/
theorem wp_join {P : Program} {c : Code} {Q : Exit → Act → World → Prop} {a : Act} {w : World} (ks : List Tmp) (F : (Tmp → Value) → World → Prop)
    (hcont : ∀ j w', F j w' → Q .normal (putAll a (ks.map fun n => (n, j n))) w')
    (h : Code.wp P c (fun e a' w' => e = .normal ∧ a' = putAll a (ks.map fun n => (n, a'.tmps.getD n undef)) ∧ F (fun n => a'.tmps.getD n undef) w') a w) : Code.wp P c Q a w := by
  refine Code.wp_mono ?_ h
  rintro e a' w' ⟨rfl, he, hF⟩
  rw [he]
  exact hcont _ w' hF
theorem reps_single {α : Type} {R : α → List Value → Prop} {size : Nat} {p : α} {cs : List Value} (hl : cs.length = size) (h : R p cs) : Reps R size [p] cs := by
  refine ⟨by simp [hl], fun j q hj => ?_⟩
  have hj0 : j = 0 := by have := (List.getElem?_eq_some_iff.1 hj).1; simpa using this
  subst hj0
  have hq : p = q := by simpa using hj
  subst hq
  rw [Nat.zero_mul, List.drop_zero, List.take_of_length_le (by omega)]
  exact h
theorem R_empty {α : Type} (d : Kd α) (e : Nat) (W : World) (base : Nat) (ok : Nat → Prop) (hb : base ≤ W.heap.size) (hok : ok W.heap.size) : d.R e (W.alloc (.cells #[] e)) base ok (.slice (some ⟨W.heap.size, 0, none⟩) 0 0) [] := by
  refine ⟨fun k hk => ?_, [], ?_, ⟨by simp, fun j p hj => by simp at hj⟩⟩
  · have : W.heap.size = k := by simpa [Value.ownBlock] using hk
    subst this
    exact hok
  · have := World.ownsRow_lit (base := base) (e := e) (size := d.sz) W #[] 0 hb (by simp [maxLen]) (by simp)
    simpa using this
theorem too_callsN (w : World) (A B : Option Addr) (cA cB n : Nat) (ps : List Pr) (ds : List (List Int)) (hA : kP.C w A ps.length ps) (hB : kD.C w B ds.length ds) (hl : ds.length = ps.length) (hn' : ds.length = n) (hps : ∀ p ∈ ps, IsD p.2) (hds : ∀ d ∈ ds, IsD d) (q : Pr) (hq : IsD q.2) (s : List Int) (hs : IsD s)
    (hex : ∃ (i : Nat) (p : Pr), ps[i]? = some p ∧ ds[i]? = some s ∧ nm p.1 = nm q.1 ∧ p.2 = q.2) (hn : ps.length ≤ 9223372036854775806) :
    Calls Tryd.prog 12 #[.slice A ps.length cA, .slice B n cB, pairP q, .agg (nums .u8 s).toArray] w fun e w' => e = .returned (.bool true) ∧ Below w.heap.size w w' := by
  subst hn'
  exact too_calls w A B cA cB ps ds hA hB hl hps hds q hq s hs hex hn
theorem ext_of {sec : List Int} {ps : List Pr} {q : Pr} {sl : List Int} (h : decide (sf sec ps (nm q.1, q.2) = some sl) = true) : ∃ (i : Nat) (p : Pr), ps[i]? = some p ∧ (ps.map (sealf sec))[i]? = some sl ∧ nm p.1 = nm q.1 ∧ p.2 = q.2 := by
  obtain ⟨hv, p, hp, h1, h2⟩ := sf_some sec (of_decide_eq_true h)
  obtain ⟨i, hi⟩ := List.getElem?_of_mem hp
  refine ⟨i, p, hi, ?_, h1, h2⟩
  rw [List.getElem?_map, hi, hv]
  show some (sealf sec p) = some (sealf sec q)
  unfold sealf
  rw [h1, h2]
theorem was_step {ps : List Pr} {k : Nat} {p q : Pr} {b same : Bool} (hp : ps[k]? = some p) (hb : b = true ↔ ∃ p' ∈ ps.take k, nm p'.1 = nm q.1 ∧ p'.2 = q.2) (hs : decide (nm p.1 = nm q.1 ∧ p.2 = q.2) = same) : (b || same) = true ↔ ∃ p' ∈ ps.take (k + 1), nm p'.1 = nm q.1 ∧ p'.2 = q.2 := by
  have ht : ps.take (k + 1) = ps.take k ++ [p] := by rw [List.take_add_one, hp]; rfl
  rw [ht, Bool.or_eq_true, hb, ← hs, decide_eq_true_iff]
  constructor
  · rintro (⟨p', h1, h2⟩ | h)
    · exact ⟨p', List.mem_append_left _ h1, h2⟩
    · exact ⟨p, List.mem_append_right _ (List.mem_singleton.2 rfl), h⟩
  · rintro ⟨p', h1, h2⟩
    rcases List.mem_append.1 h1 with h1 | h1
    · exact Or.inl ⟨p', h1, h2⟩
    · rw [List.mem_singleton.1 h1] at h2
      exact Or.inr h2
theorem was_all {sec : List Int} {ps : List Pr} {q : Pr} {b : Bool} {v : List Int} (hv : sealf sec q = v) (hb : b = true ↔ ∃ p' ∈ ps.take ps.length, nm p'.1 = nm q.1 ∧ p'.2 = q.2) : decide (sf sec ps (nm q.1, q.2) = some v) = b := by
  rw [List.take_length] at hb
  rw [Bool.eq_iff_iff, decide_eq_true_iff, hb]
  constructor
  · intro h
    exact (sf_some sec h).2
  · rintro ⟨p, hp, h1, h2⟩
    rw [← h1, ← h2, sf_mem sec hp, ← hv]
    unfold sealf
    rw [h1, h2]
theorem pair_reads {w : World} {ad : Addr} {n : Nat} {ps : List Pr} (h : kP.C w (some ad) n ps) {i : Nat} {q : Pr} (hq : ps[i]? = some q) : ReadsInt w .u8 (some (ad.add (i * 33 + 1))) q.2.length q.2 := by
  obtain ⟨_, h2, h3⟩ := pair_at h hq
  exact ⟨rfl, by rw [h3]; decide, fun _ => ⟨_, rfl, fun j hj => h2 j _ (nums_get j hj)⟩⟩
end Go.Proofs.YtoigoiefnapokaaDoor.T
