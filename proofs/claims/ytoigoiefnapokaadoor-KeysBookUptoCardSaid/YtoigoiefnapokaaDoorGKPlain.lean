/- What is signed, plainly; literal rows; what an append leaves of a ring. -/
import Derived.Test.YtoigoiefnapokaaDoorGKToo
import Derived.Great.BuildSlice
set_option linter.unusedVariables false
set_option linter.unusedSimpArgs false
namespace Go.Proofs.YtoigoiefnapokaaDoor.T
open Go.RowKit Go.Maps Go.MuLone Go.Proofs.YtoigoiefnapokaaDoorW.PrintWords Go.Proofs.YtoigoiefnapokaaDoorW.PrintLast
/-- The seal of a pair. -/
def sealf (sec : List Int) (p : Pr) : List Int := macf (macf sec (bytesOf (nm p.1))) p.2
open Classical in
/-- What the ring says of a name and a digest, where the pairs ps were signed. -/
noncomputable def sf (sec : List Int) (ps : List Pr) (k : ByteArray × List Int) : Option (List Int) := if ∃ p ∈ ps, k = (nm p.1, p.2) then some (macf (macf sec (bytesOf k.1)) k.2) else none
theorem sf_nil (sec : List Int) : sf sec [] = fun _ => none := by
  funext k
  unfold sf
  rw [if_neg]
  rintro ⟨p, hp, _⟩
  cases hp
theorem sf_put (sec : List Int) (ps : List Pr) (p : Pr) : upd (sf sec ps) (nm p.1, p.2) (sealf sec p) = sf sec (ps ++ [p]) := by
  funext k
  unfold upd sf
  by_cases h : k = (nm p.1, p.2)
  · subst h
    rw [if_pos rfl, if_pos ⟨p, by simp, rfl⟩]
    rfl
  · rw [if_neg h]
    by_cases h2 : ∃ q ∈ ps, k = (nm q.1, q.2)
    · obtain ⟨q, hq, e⟩ := h2
      rw [if_pos ⟨q, hq, e⟩, if_pos ⟨q, by simp [hq], e⟩]
    · rw [if_neg h2, if_neg]
      rintro ⟨q, hq, e⟩
      rcases List.mem_append.1 hq with hq | hq
      · exact h2 ⟨q, hq, e⟩
      · have : q = p := by simpa using hq
        subst this
        exact h e
theorem sf_mem (sec : List Int) {ps : List Pr} {p : Pr} (h : p ∈ ps) : sf sec ps (nm p.1, p.2) = some (sealf sec p) := by
  unfold sf
  rw [if_pos ⟨p, h, rfl⟩]
  rfl
theorem sf_some (sec : List Int) {ps : List Pr} {q : Pr} {v : List Int} (h : sf sec ps (nm q.1, q.2) = some v) : v = sealf sec q ∧ ∃ p ∈ ps, nm p.1 = nm q.1 ∧ p.2 = q.2 := by
  unfold sf at h
  split at h
  · rename_i hx
    injection h with h
    obtain ⟨p, hp, e⟩ := hx
    injection e with e1 e2
    exact ⟨h.symm, p, hp, e1.symm, e2.symm⟩
  · cases h
theorem sf_is (sec : List Int) (ps : List Pr) : ∀ k v, sf sec ps k = some v → IsD v := by
  intro k v h
  unfold sf at h
  split at h
  · injection h with h; subst h; exact mac_is _ _
  · cases h
theorem seal_is (sec : List Int) (p : Pr) : IsD (sealf sec p) := mac_is _ _
theorem says_sf {D : DataW Value} {sec : List Int} {ps : List Pr} (h : Says D klP okP (sf sec ps)) (hm : IsMap D) (p : Pr) (hp : IsD p.2) : Says (D.put (klP (nm p.1, p.2)) (.held (digV (sealf sec p)))) klP okP (sf sec (ps ++ [p])) := by
  have := h.put hm klP_key klP_inj (a := (nm p.1, p.2)) ⟨nm_okS _, hp⟩ (sealf sec p)
  rwa [sf_put] at this
/-! literal rows -/
theorem infoPr : (Tryd.prog.info? 35).map (fun i => (i.zero, i.size, i.bytes)) = some (some (pairP (0, zeroD)), 33, 40) := by kernel_rfl
theorem infoDg : (Tryd.prog.info? 27).map (fun i => (i.zero, i.size, i.bytes)) = some (some (digV zeroD), 32, 32) := by kernel_rfl
theorem bsl_pair (p : Pr) (hd : p.2.length = 32) (w : World) : (Instr.buildSlice 23 1 #[(0, pairP p)]).run Tryd.prog w = .ok (.slice (some ⟨w.heap.size, 0, none⟩) 1 1) (w.alloc (.cells (.int .i64 p.1 :: nums .u8 p.2).toArray 35)) := by
  obtain ⟨n, d⟩ := p
  obtain ⟨i0, hi, hz⟩ := Option.map_eq_some_iff.1 infoPr
  simp only [Prod.mk.injEq] at hz
  obtain ⟨hz0, hz1, hz2⟩ := hz
  refine run_buildSlice w 23 35 1 _ _ i0 (pairP (0, zeroD)) Tryd.underlying23 hi hz0 (by rw [hz1]; decide) (by rw [hz1]; decide) ?_
  rw [hz1]
  dsimp only at hd
  match d, hd with
  | [a0, a1, a2, a3, a4, a5, a6, a7, a8, a9, a10, a11, a12, a13, a14, a15, a16, a17, a18, a19, a20, a21, a22, a23, a24, a25, a26, a27, a28, a29, a30, a31], _ => (show _ = _; kernel_rfl)
theorem bsl_dig (d : List Int) (hd : d.length = 32) (w : World) : (Instr.buildSlice 36 1 #[(0, .agg (nums .u8 d).toArray)]).run Tryd.prog w = .ok (.slice (some ⟨w.heap.size, 0, none⟩) 1 1) (w.alloc (.cells (nums .u8 d).toArray 27)) := by
  obtain ⟨i0, hi, hz⟩ := Option.map_eq_some_iff.1 infoDg
  simp only [Prod.mk.injEq] at hz
  obtain ⟨hz0, hz1, hz2⟩ := hz
  refine run_buildSlice w 36 27 1 _ _ i0 (digV zeroD) Tryd.underlying36 hi hz0 (by rw [hz1]; decide) (by rw [hz1]; decide) ?_
  rw [hz1]
  match d, hd with
  | [a0, a1, a2, a3, a4, a5, a6, a7, a8, a9, a10, a11, a12, a13, a14, a15, a16, a17, a18, a19, a20, a21, a22, a23, a24, a25, a26, a27, a28, a29, a30, a31], _ => (show _ = _; kernel_rfl)
theorem build_pr (n : Int) (d : List Int) (hd : d.length = 32) (w : World) : (Instr.build 35 #[(0, .int .i64 n), (1, .agg (nums .u8 d).toArray)]).run Tryd.prog w = .ok (pairP (n, d)) w := by
  match d, hd with
  | [a0, a1, a2, a3, a4, a5, a6, a7, a8, a9, a10, a11, a12, a13, a14, a15, a16, a17, a18, a19, a20, a21, a22, a23, a24, a25, a26, a27, a28, a29, a30, a31], _ => exact run_build w 35 _ _ (by kernel_rfl)
/-- d := api.Digest{9, 9} -/
def nineD : List Int := [9, 9] ++ List.replicate 30 0
theorem nineD_is : IsD nineD := ⟨rfl, by decide⟩
theorem build_nine (w : World) : (Instr.build 27 #[(0, .int .u8 9), (1, .int .u8 9)]).run Tryd.prog w = .ok (.agg (nums .u8 nineD).toArray) w := run_build w 27 _ _ (by kernel_rfl)
/-! a ring and what is laid behind it -/
def RV.under (x : RV) (n : Nat) : Prop := x.b < n ∧ x.bk < n ∧ x.bs < n ∧ ∀ ad, x.A = some ad → 0 < x.sec.length → ad.block < n
theorem RV.At.under {x : RV} {w : World} {base : Nat} {l : Int} (h : x.At w base l) : x.under w.heap.size := ⟨blk_lt h.blk, h.keys.lt, h.signed.lt, reads_far h.reads⟩
theorem RV.At.grown {x : RV} {w W : World} {base n : Nat} {l : Int} (h : x.At w base l) (hu : x.under n) {row : Option Nat} (hg : w.grownBy W row) (hr : ∀ k, row = some k → n ≤ k) : x.At W base l := by
  have ne : ∀ k, k < n → some k ≠ row := fun k hk e => by have := hr k e.symm; omega
  refine ⟨(hg.block _ (blk_lt h.blk) (ne _ hu.1)).trans h.blk, ?_, h.far, h.cap, map_below h.keys (hg.block _ h.keys.lt (ne _ hu.2.1)), map_below h.signed (hg.block _ h.signed.lt (ne _ hu.2.2.1)), h.base, h.ne⟩
  refine ⟨h.reads.1, h.reads.2.1, fun hp => ?_⟩
  obtain ⟨ad, had, hc⟩ := h.reads.2.2 hp
  refine ⟨ad, had, fun j hj => ?_⟩
  have hb := hu.2.2.2 ad had hp
  have hlt := reads_far h.reads ad had hp
  have e : (ad.add j).block = ad.block := by unfold Addr.add; split <;> rfl
  have hblk := hg.block ad.block hlt (ne _ hb)
  have hj' := hc j hj
  unfold World.cell? at hj' ⊢
  rw [e] at hj' ⊢
  rw [hblk]
  exact hj'
theorem RV.At.lower {x : RV} {w : World} {base base' : Nat} {l : Int} (h : x.At w base l) (hb : base' ≤ base) : x.At w base' l := ⟨h.blk, h.reads, h.far, h.cap, h.keys, h.signed, ⟨Nat.le_trans hb h.base.1, Nat.le_trans hb h.base.2.1, Nat.le_trans hb h.base.2.2⟩, h.ne⟩
theorem RV.At.setRow {x : RV} {w : World} {base n b : Nat} {l : Int} (h : x.At w base l) (hu : x.under n) (hn : n ≤ b) (cs : Array Value) : x.At (w.setRow b cs) base l :=
  h.keep (keep_row (KeepBut.refl _ _ _) cs) (by have := hu.1; omega) (by have := hu.2.1; omega) (by have := hu.2.2.1; omega) (fun ad had hp => by have := hu.2.2.2 ad had hp; omega)
theorem RV.under.le {x : RV} {n m : Nat} (h : x.under n) (hm : n ≤ m) : x.under m := ⟨Nat.lt_of_lt_of_le h.1 hm, Nat.lt_of_lt_of_le h.2.1 hm, Nat.lt_of_lt_of_le h.2.2.1 hm, fun ad a b => Nat.lt_of_lt_of_le (h.2.2.2 ad a b) hm⟩
theorem blk_row {w : World} {b c : Nat} {o : Obj} (h : w.heap[c]? = some o) (hn : b ≠ c) (cs : Array Value) : (w.setRow b cs).heap[c]? = some o := (setRow_other w b c cs (fun e => hn e.symm)).trans h
end Go.Proofs.YtoigoiefnapokaaDoor.T
