/- slices.SortFunc at Binding, ordered by Var: the row holds a permutation, rising. -/
import Derived.Test.YtnomgmlfagiffaaDoorT6Mt
import Derived.Test.YtnomgmlfagiffaaDoorGPureMt
import Derived.Test.YtnomgmlfagiffaaDoorGLayMt
import Derived.Shelf.SlSortCmp.WholeK
set_option linter.unusedVariables false
namespace Go.Proofs.YtnomgmlfagiffaaDoor.T
open Go.RowKit Go.Shelf Go.Lib Go.Sort Go.Proofs.YtnomgmlfagiffaaDoorW.PrintWords
instance : Inhabited Bd := ⟨z44⟩
def encB (b : Bd) : List Value := [.int .i64 b.f0, .int .i64 b.f1.f0, .int .i64 b.f1.f1, .string b.f1.f2]
theorem encB_len (b : Bd) : (encB b).length = 4 := rfl
theorem encB_one (b : Bd) : ∀ v ∈ encB b, v.oneCell' = true := by
  intro v hv; simp [encB] at hv; rcases hv with rfl | rfl | rfl | rfl <;> rfl
theorem M_enc {w : World} {base : Nat} {ok : Nat → Prop} {x : Bd} {cs : List Value} : k44.M w base ok x cs ↔ cs = encB x :=
  ⟨fun h => k44_openM h, fun h => h ▸ k44_mkM w base ok x⟩
theorem reps_flat {R : Bd → List Value → Prop} (hR : ∀ p c, R p c → c = encB p) {ps : List Bd} {cs : List Value} (h : Reps R 4 ps cs) : cs = (flatK encB 4 ps.toArray).toList := by
  have hl : cs.length = (flatK encB 4 ps.toArray).toList.length := by rw [h.1]; simp
  refine List.ext_getElem hl fun t h1 h2 => ?_
  have ht : t < ps.length * 4 := by rw [← h.1]; exact h1
  have hj : t / 4 < ps.length := by omega
  have h3 := hR _ _ (h.2 (t / 4) _ (List.getElem?_eq_getElem hj))
  have h4 : cs[t] = (encB ps[t / 4])[t % 4]'(by rw [encB_len]; omega) := by
    have : ((cs.drop (t / 4 * 4)).take 4)[t % 4]? = (encB ps[t / 4])[t % 4]? := by rw [h3]
    rw [List.getElem?_take_of_lt (by omega), List.getElem?_drop, show t / 4 * 4 + t % 4 = t by omega, List.getElem?_eq_getElem h1, List.getElem?_eq_getElem (by rw [encB_len]; omega)] at this
    exact Option.some.inj this
  have h5 := get_flatK encB 4 ps.toArray t (by simpa using ht)
  rw [getElem!_pos (flatK encB 4 ps.toArray) t (by simpa using ht), getElem!_pos ps.toArray (t / 4) (by simpa using hj)] at h5
  refine h4.trans (Eq.trans ?_ (Eq.trans h5.symm (Array.getElem_toList (xs := flatK encB 4 ps.toArray) (by simpa using ht)).symm))
  simp only [List.getElem_toArray]
  rw [getElem!_pos (encB ps[t / 4]) (t % 4) (by rw [encB_len]; omega)]
theorem flat_reps {R : Bd → List Value → Prop} (hR : ∀ p, R p (encB p)) (d : Array Bd) : Reps R 4 d.toList (flatK encB 4 d).toList := by
  refine ⟨by simp, fun j p hj => ?_⟩
  obtain ⟨hl, rfl⟩ := List.getElem?_eq_some_iff.1 hj
  have hl' : j < d.size := by simpa using hl
  have : ((flatK encB 4 d).toList.drop (j * 4)).take 4 = encB d.toList[j] := by
    refine List.ext_getElem (by simp [encB_len]; omega) fun t h1 h2 => ?_
    have ht : t < 4 := by rw [encB_len] at h2; exact h2
    rw [List.getElem_take, List.getElem_drop, Array.getElem_toList, ← getElem!_pos, get_flatK encB 4 d _ (by omega), show (j * 4 + t) / 4 = j by omega, show (j * 4 + t) % 4 = t by omega, getElem!_pos d j hl', getElem!_pos _ t (by rw [encB_len]; exact ht)]
    rfl
  rw [this]
  exact hR _
def cfB (x y : Bd) : Int := if x.f0 < y.f0 then -1 else if x.f0 > y.f0 then 1 else 0
theorem cmp_f (x y : Int) : cmp_Compare_int.f x y = some (if x < y then -1 else if x > y then 1 else 0) := by
  unfold cmp_Compare_int.f cmp_isNaN_int.f
  simp
  split
  · rfl
  · split <;> rfl
theorem swoB : SWO (ltOf cfB) := by
  have e : ∀ x y, ltOf cfB x y = decide (x.f0 < y.f0) := by
    intro x y
    unfold ltOf cfB
    split
    · simp_all
    · split <;> simp_all
  refine ⟨fun x => ?_, fun x y z => ?_, fun x y z => ?_⟩ <;> simp only [e, decide_eq_true_eq, decide_eq_false_iff_not] <;> omega
set_option maxHeartbeats 2000000 in
set_option maxRecDepth 100000 in
/-- The closure that compares two binds by Var: it lays two blocks. -/
theorem byVar_calls (x y : Bd) (W : World) : Calls Tryd.prog 83 #[.agg (encB x).toArray, .agg (encB y).toArray] W fun e w' => e = .returned (.int .i64 (cfB x y)) ∧ ∃ q os', w' = grow (W.drewN q) os' := by
  have hcon : ∀ W', Calls Tryd.prog 76 #[.int .i64 x.f0, .int .i64 y.f0] W' fun e w' => e = .returned (.int .i64 (cfB x y)) ∧ Drawn0 W' w' := fun W' => cmp_Compare_int.calls x.f0 y.f0 _ W' (cmp_f _ _)
  generalize cfB x y = r at hcon ⊢
  show Calls Tryd.prog 83 #[.agg #[.int .i64 x.f0, .int .i64 x.f1.f0, .int .i64 x.f1.f1, .string x.f1.f2], .agg #[.int .i64 y.f0, .int .i64 y.f1.f0, .int .i64 y.f1.f1, .string y.f1.f2]] W _
  have hu := Tryd.underlying44
  go_enter Tryd.func83, Tryd.ntmps83
  go_wp2_with (go_at_call 76; refine (hcon _).mono ?_; rintro e w' ⟨rfl, hd⟩; obtain ⟨n, rfl⟩ := hd)
  go_ret
  exact ⟨rfl, _, _, by rw [alloc_eq_grow, alloc_eq_grow, grow_grow]; rfl⟩
theorem cmpLaysB (blk off size : Nat) (w : World) : CmpLays Tryd.prog 83 #[] encB 4 cfB blk off size w :=
  fun _ _ _ _ x y => byVar_calls x y _
theorem heap_sortedB {w : World} {g n : Nat} {os : Array Obj} {cur : Array Value} {e : TypeId} {fr : Nat × Nat} (d : Array Bd) (hb : w.heap[g]? = some (.cells cur e fr)) :
    (sortWorldK encB 4 w g 0 n d os).heap[g]? = some (.cells (putCells id 0 (flatK encB 4 d) cur) e fr) := by
  have hg : g < w.heap.size := (Array.getElem?_eq_some_iff.1 hb).1
  unfold sortWorldK putRowK
  rw [heap_grow_old _ _ (by simpa using hg)]
  simp [putRow, mapBlock, Sort.ahead, Array.getElem?_modify, hb, onCells]
theorem grownBy_sortedB {w : World} {g n : Nat} {os : Array Obj} (d : Array Bd) : w.grownBy (sortWorldK encB 4 w g 0 n d os) (some g) := by
  unfold sortWorldK putRowK
  refine ⟨rfl, rfl, rfl, by simp, fun k hk hne => ?_⟩
  rw [heap_grow_old _ _ (by simpa using hk)]
  have : g ≠ k := fun e => hne (by rw [e])
  simp [putRow, mapBlock, Sort.ahead, Array.getElem?_modify, this]
theorem take_putCellsB (cur : Array Value) (F : Array Value) (h : F.size ≤ cur.size) : (putCells id 0 F cur).toList.take F.size = F.toList := by
  apply List.ext_getElem?
  intro j
  by_cases hj : j < F.size
  · rw [List.getElem?_take_of_lt hj, Array.getElem?_toList]
    simp [putCells, hj, show j < cur.size by omega]
  · rw [List.getElem?_take_eq_none (by omega), List.getElem?_eq_none (by simp; omega)]
set_option maxHeartbeats 2000000 in
set_option maxRecDepth 100000 in
/-- slices.SortFunc at a Binding of the call's own. -/
theorem sortB_calls (g cap : Nat) (l : List Bd) (w : World) (base : Nat) (hR : Kd.R k44 44 w base (fun _ => True) (.slice (some ⟨g, 0, none⟩) l.length cap) l) (hlen : l.length < 4611686018427387904) :
    Calls Tryd.prog 82 #[.slice (some ⟨g, 0, none⟩) l.length cap, .func (.func 83) #[] #[]] w fun e w' =>
      e = .returned (.tuple #[]) ∧ w.grownBy w' (some g) ∧ ∃ l' : List Bd, l'.Perm l ∧ l'.Pairwise (fun a b => ¬ b.f0 < a.f0) ∧ Kd.R k44 44 w' base (fun _ => True) (.slice (some ⟨g, 0, none⟩) l.length cap) l' := by
  obtain ⟨_, inner, hown, hreps⟩ := hR
  have hin := reps_flat (fun p c h => M_enc.1 h) hreps
  change w.ownsRow base 44 4 _ _ _ at hown
  obtain ⟨hil, hown2⟩ := hown
  rcases hown2 with ⟨h0, _⟩ | ⟨g', cap', cur, hv, hbase, hb, hnc, hcm, hcs, htk⟩
  · cases h0
  cases hv
  have hblk : g < w.heap.size := (Array.getElem?_eq_some_iff.1 hb).1
  have hH : HoldsK encB 4 w g 0 l.toArray := by
    intro j hj
    have hj4 : j < l.length * 4 := by simpa using hj
    refine ⟨?_, by simp [World.frozen?, hb]⟩
    have h1 : (cur.toList.take (l.length * 4))[j]? = some ((flatK encB 4 l.toArray)[j]!) := by
      rw [htk, hin, getElem!_pos _ j hj, Array.getElem?_toList]
      exact Array.getElem?_eq_getElem hj
    rw [List.getElem?_take_of_lt hj4, Array.getElem?_toList] at h1
    simp only [World.cell?, hb, Nat.zero_add]
    simp only [Option.isSome_none, Bool.false_eq_true, if_false]
    exact h1
  have eg : ∀ args w, (callFunc 83 args).run Tryd.prog w = .ok (.enter 83 args) w := enters_of Tryd.func83 (by kernel_rfl) rfl
  have L := Tryd.pdqBd
  have hsz : l.toArray.size < 4611686018427387904 := by simpa using hlen
  have hlim : Lib.bitLen l.toArray.size < 4611686018427387904 := Nat.lt_of_le_of_lt (Lib.bitLen_le l.toArray.size 62 (by omega) (by omega)) (by omega)
  have hp := AnyQ.pdqsortCmpFunc_all (P := Tryd.prog) (ρ := Tryd.pdqBd_ren) L 4 Tryd.isAgg44 Tryd.sizeOf44 encB cfB 83 #[] swoB g 0 cap l.toArray w eg (cmpLaysB g 0 _ w) ⟨encB_len, encB_one, hH, hblk⟩ (l.toArray.size + 1) 0 l.toArray.size (Lib.bitLen l.toArray.size) l.toArray w (by omega) rfl (SWK.start hH) (Nat.zero_le _) (Nat.le_refl _) hsz hlim (Or.inl rfl)
  have hl : Calls Tryd.prog 90 #[.int .u64 (l.toArray.size : Int)] w fun e w' => e = .returned (.int .i64 (Lib.bitLen l.toArray.size : Nat)) ∧ w' = w := by
    have h := Any.bits_Len (SlLaysF0.n15.bits (P := Tryd.prog) (ρ := Tryd.pdqBd_ren) { L with }) (l.toArray.size : Int) w (by omega) (by omega)
    rwa [Int.toNat_natCast] at h
  have wr : IntKind.u64.wrap (l.toArray.size : Int) = l.toArray.size := by simp [IntKind.wrap, IntKind.bits, IntKind.signed]; simp at hsz; omega
  have hs := pdq_sorts (ltOf cfB) swoB l.toArray 0 l.toArray.size (Lib.bitLen l.toArray.size) true true (Nat.zero_le _) (Nat.le_refl _) (Or.inl rfl)
  generalize pdq (ltOf cfB) l.toArray 0 l.toArray.size (Lib.bitLen l.toArray.size) true true = d' at hp hs
  have hq : ∀ n os, w.grownBy (sortWorldK encB 4 w g 0 n d' os) (some g) ∧ ∃ l' : List Bd, l'.Perm l ∧ l'.Pairwise (fun a b => ¬ b.f0 < a.f0) ∧ Kd.R k44 44 (sortWorldK encB 4 w g 0 n d' os) base (fun _ => True) (.slice (some ⟨g, 0, none⟩) l.length cap) l' := by
    intro n os
    obtain ⟨⟨p1, p2, p3⟩, p4⟩ := hs
    have hl' : d'.toList.length = l.length := by simpa using p1
    refine ⟨grownBy_sortedB d', d'.toList, ?_, ?_, ?_⟩
    · have e1 : d'.toList.take l.length = d'.toList := by rw [← hl']; exact List.take_length
      simpa [e1] using p3
    · rw [List.pairwise_iff_getElem]
      intro i j hi hj hij
      have h4 := p4 i j (Nat.zero_le _) hij (by simp only [Array.length_toList] at hj; omega)
      simp only [Array.length_toList] at hi hj
      rw [getElem!_pos d' i hi, getElem!_pos d' j hj] at h4
      simp only [Array.getElem_toList]
      unfold ltOf cfB at h4
      intro hlt
      rw [if_pos hlt] at h4
      simp at h4
    · have hf : (flatK encB 4 d').size = l.length * 4 := by rw [size_flatK, ← hl']; simp
      have ho : (sortWorldK encB 4 w g 0 n d' os).ownsRow base 44 4 (.slice (some ⟨g, 0, none⟩) l.length cap) d'.toList.length (flatK encB 4 d').toList := ⟨by simp [hf, hl'], .inr ⟨g, cap, _, by rw [hl'], hbase, heap_sortedB d' hb, by rw [hl']; exact hnc, hcm, by simp [putCells, hcs], by rw [hl', ← hf]; exact take_putCellsB cur _ (by rw [hf, hcs]; exact Nat.mul_le_mul_right 4 hnc)⟩⟩
      exact ⟨fun _ _ => trivial, (flatK encB 4 d').toList, ho, flat_reps (fun p => M_enc.2 rfl) d'⟩
  simp only [List.size_toArray] at hp hl wr
  clear hs hH hreps hin htk hcs hb hil hlim hsz
  go_enter Tryd.func82, Tryd.ntmps82
  go_wp2_with (first | (go_at_call 90; refine hl.mono ?_; rintro e w' ⟨rfl, rfl⟩) | (go_at_call 89; refine hp.mono ?_; rintro e w' ⟨rfl, n, os, rfl⟩))
  go_end0
  exact ⟨rfl, (hq n os).1, (hq n os).2⟩
end Go.Proofs.YtnomgmlfagiffaaDoor.T
