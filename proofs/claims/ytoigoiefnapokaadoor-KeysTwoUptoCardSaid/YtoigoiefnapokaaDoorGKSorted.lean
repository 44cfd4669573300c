/- slices.SortFunc at rows of digests: the row holds a permutation, rising. -/
import Derived.Test.YtoigoiefnapokaaDoorGKSort
import Derived.Shelf.SlSortCmp.WholeK
import Derived.Shelf.SlSortCmp.NoneTotal
set_option linter.unusedVariables false
set_option linter.unusedSimpArgs false
namespace Go.Proofs.YtoigoiefnapokaaDoor.T
open Go.RowKit Go.Maps Go.MuLone Go.Shelf Go.Sort Go.Proofs.YtoigoiefnapokaaDoorW.PrintWords Go.Proofs.YtoigoiefnapokaaDoorW.PrintLast
theorem cmpLaysD (blk off size : Nat) (w : World) : CmpLays Tryd.prog 30 #[] encD 32 cfD blk off size w :=
  fun _ _ _ _ x y => byTold_calls x y _
theorem reps_flatD {R : List Int → List Value → Prop} (hR : ∀ p c, R p c → c = nums .u8 p) {ps : List Dg} {cs : List Value} (h : Reps R 32 (ps.map (·.1)) cs) : cs = (flatK encD 32 ps.toArray).toList := by
  have hl0 : cs.length = ps.length * 32 := by have := h.1; rwa [List.length_map] at this
  have hl : cs.length = (flatK encD 32 ps.toArray).toList.length := by rw [hl0]; simp
  refine List.ext_getElem hl fun t h1 h2 => ?_
  have ht : t < ps.length * 32 := by rw [← hl0]; exact h1
  have hj : t / 32 < ps.length := by omega
  have h3 := hR _ _ (h.2 (t / 32) ps[t / 32].1 (by rw [List.getElem?_map, List.getElem?_eq_getElem hj]; rfl))
  change _ = encD ps[t / 32] at h3
  have h4 : cs[t] = (encD ps[t / 32])[t % 32]'(by rw [encD_len]; omega) := by
    have : ((cs.drop (t / 32 * 32)).take 32)[t % 32]? = (encD ps[t / 32])[t % 32]? := by rw [h3]
    rw [List.getElem?_take_of_lt (by omega), List.getElem?_drop, show t / 32 * 32 + t % 32 = t by omega, List.getElem?_eq_getElem h1, List.getElem?_eq_getElem (by rw [encD_len]; omega)] at this
    exact Option.some.inj this
  have h5 := get_flatK encD 32 ps.toArray t (by simpa using ht)
  rw [getElem!_pos (flatK encD 32 ps.toArray) t (by simpa using ht), getElem!_pos ps.toArray (t / 32) (by simpa using hj)] at h5
  refine h4.trans (Eq.trans ?_ (Eq.trans h5.symm (Array.getElem_toList (xs := flatK encD 32 ps.toArray) (by simpa using ht)).symm))
  simp only [List.getElem_toArray]
  rw [getElem!_pos (encD ps[t / 32]) (t % 32) (by rw [encD_len]; omega)]
theorem flat_repsD {R : List Int → List Value → Prop} (hR : ∀ p : Dg, R p.1 (nums .u8 p.1)) (d : Array Dg) : Reps R 32 (d.toList.map (·.1)) (flatK encD 32 d).toList := by
  refine ⟨by simp, fun j p hj => ?_⟩
  rw [List.getElem?_map] at hj
  obtain ⟨q, hq, rfl⟩ := Option.map_eq_some_iff.1 hj
  obtain ⟨hl, rfl⟩ := List.getElem?_eq_some_iff.1 hq
  have hl' : j < d.size := by simpa using hl
  have : ((flatK encD 32 d).toList.drop (j * 32)).take 32 = encD d.toList[j] := by
    refine List.ext_getElem (by simp [encD_len]; omega) fun t h1 h2 => ?_
    have ht : t < 32 := by rw [encD_len] at h2; exact h2
    rw [List.getElem_take, List.getElem_drop, Array.getElem_toList, ← getElem!_pos, get_flatK encD 32 d _ (by omega), show (j * 32 + t) / 32 = j by omega, show (j * 32 + t) % 32 = t by omega, getElem!_pos d j hl', getElem!_pos _ t (by rw [encD_len]; exact ht)]
    rfl
  rw [this]
  exact hR _
theorem heap_sortedD {w : World} {g n : Nat} {os : Array Obj} {cur : Array Value} {e : TypeId} {fr : Nat × Nat} (d : Array Dg) (hb : w.heap[g]? = some (.cells cur e fr)) :
    (sortWorldK encD 32 w g 0 n d os).heap[g]? = some (.cells (putCells id 0 (flatK encD 32 d) cur) e fr) := by
  have hg : g < w.heap.size := (Array.getElem?_eq_some_iff.1 hb).1
  unfold sortWorldK putRowK
  rw [heap_grow_old _ _ (by simpa using hg)]
  simp [putRow, mapBlock, Sort.ahead, Array.getElem?_modify, hb, onCells]
theorem grownBy_sortedD {w : World} {g n : Nat} {os : Array Obj} (d : Array Dg) : w.grownBy (sortWorldK encD 32 w g 0 n d os) (some g) := by
  unfold sortWorldK putRowK
  refine ⟨rfl, rfl, rfl, by simp, fun k hk hne => ?_⟩
  rw [heap_grow_old _ _ (by simpa using hk)]
  have : g ≠ k := fun e => hne (by rw [e])
  simp [putRow, mapBlock, Sort.ahead, Array.getElem?_modify, this]
theorem take_putCellsD (cur : Array Value) (F : Array Value) (h : F.size ≤ cur.size) : (putCells id 0 F cur).toList.take F.size = F.toList := by
  apply List.ext_getElem?
  intro j
  by_cases hj : j < F.size
  · rw [List.getElem?_take_of_lt hj, Array.getElem?_toList]
    simp [putCells, hj, show j < cur.size by omega]
  · rw [List.getElem?_take_eq_none (by omega), List.getElem?_eq_none (by simp; omega)]
set_option maxHeartbeats 2000000 in
set_option maxRecDepth 100000 in
/-- slices.SortFunc at a row of digests of the call's own. -/
theorem sortD_calls (g cap : Nat) (l : List Dg) (w : World) (base : Nat) (hR : kD.R 27 w base (fun _ => True) (.slice (some ⟨g, 0, none⟩) l.length cap) (l.map (·.1))) (hlen : l.length < 4611686018427387904) :
    Calls Tryd.prog 29 #[.slice (some ⟨g, 0, none⟩) l.length cap, .func (.func 30) #[] #[]] w fun e w' =>
      e = .returned (.tuple #[]) ∧ w.grownBy w' (some g) ∧ ∃ l' : List Dg, l'.Perm l ∧ l'.Pairwise (fun a b => ¬ cfD b a < 0) ∧ kD.R 27 w' base (fun _ => True) (.slice (some ⟨g, 0, none⟩) l.length cap) (l'.map (·.1)) := by
  obtain ⟨_, inner, hown, hreps⟩ := hR
  have hin := reps_flatD (fun p c h => (kD_K (kD.K_of_M h)).2) hreps
  change w.ownsRow base 27 32 _ _ _ at hown
  rw [List.length_map] at hown
  obtain ⟨hil, hown2⟩ := hown
  rcases hown2 with ⟨h0, _⟩ | ⟨g', cap', cur, hv, hbase, hb, hnc, hcm, hcs, htk⟩
  · cases h0
  cases hv
  have hblk : g < w.heap.size := (Array.getElem?_eq_some_iff.1 hb).1
  have hH : HoldsK encD 32 w g 0 l.toArray := by
    intro j hj
    have hj4 : j < l.length * 32 := by simpa using hj
    refine ⟨?_, by simp [World.frozen?, hb]⟩
    have h1 : (cur.toList.take (l.length * 32))[j]? = some ((flatK encD 32 l.toArray)[j]!) := by
      rw [htk, hin, getElem!_pos _ j hj, Array.getElem?_toList]
      exact Array.getElem?_eq_getElem hj
    rw [List.getElem?_take_of_lt hj4, Array.getElem?_toList] at h1
    simp only [World.cell?, hb, Nat.zero_add]
    simp only [Option.isSome_none, Bool.false_eq_true, if_false]
    exact h1
  have eg : ∀ args w, (callFunc 30 args).run Tryd.prog w = .ok (.enter 30 args) w := enters_of Tryd.func30 (by kernel_rfl) rfl
  have hsz : l.toArray.size < 4611686018427387904 := by simpa using hlen
  have hp := AnyQ.slices_SortFunc (P := Tryd.prog) (ρ := Tryd.sfD_ren) Tryd.sfD 32 Tryd.isAgg27 Tryd.sizeOf27 encD encD_len encD_one cfD swoD 30 #[] g 0 cap l.toArray w eg (cmpLaysD g 0 _ w) hH hblk hsz
  simp only [List.size_toArray] at hp
  refine hp.mono ?_
  rintro e w' ⟨rfl, d', n, os, ⟨p1, p2, p3⟩, p4, rfl⟩
  have hl' : d'.toList.length = l.length := by simpa using p1
  refine ⟨rfl, grownBy_sortedD d', d'.toList, ?_, ?_, ?_⟩
  · have e1 : d'.toList.take l.length = d'.toList := by rw [← hl']; exact List.take_length
    simpa [e1] using p3
  · rw [List.pairwise_iff_getElem]
    intro i j hi hj hij
    have h4 := p4 i j (Nat.zero_le _) hij (by simp only [Array.length_toList] at hj; simp only [Array.length_toList] at hl'; omega)
    simp only [Array.length_toList] at hi hj
    rw [getElem!_pos d' i hi, getElem!_pos d' j hj] at h4
    simp only [Array.getElem_toList]
    exact of_decide_eq_false h4
  · have hf : (flatK encD 32 d').size = l.length * 32 := by rw [size_flatK, ← hl']; simp
    have ho : (sortWorldK encD 32 w g 0 n d' os).ownsRow base 27 32 (.slice (some ⟨g, 0, none⟩) l.length cap) (d'.toList.map (·.1)).length (flatK encD 32 d').toList := by
      rw [List.length_map]
      exact ⟨by simp [hf, hl'], .inr ⟨g, cap, _, by rw [hl'], hbase, heap_sortedD d' hb, by rw [hl']; exact hnc, hcm, by simp [putCells, hcs], by rw [hl', ← hf]; exact take_putCellsD cur _ (by rw [hf, hcs]; exact Nat.mul_le_mul_right 32 hnc)⟩⟩
    exact ⟨fun _ _ => trivial, (flatK encD 32 d').toList, ho, flat_repsD (fun p => kD_M p.2.1) d'⟩
/-- .. at no element. -/
theorem sortD_none (v : Value) (w : World) : Calls Tryd.prog 29 #[.slice none 0 0, v] w fun e w' => e = .returned (.tuple #[]) ∧ w' = w :=
  AnyF.slices_SortFunc_none (P := Tryd.prog) (ρ := Tryd.sfD_ren) Tryd.sfD none 0 v w
end Go.Proofs.YtoigoiefnapokaaDoor.T
