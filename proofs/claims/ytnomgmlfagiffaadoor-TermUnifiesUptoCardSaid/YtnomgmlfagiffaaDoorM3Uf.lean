/- GSort; GMaps; Frame; FrameB; Laid; LaidB; GSorted: texts of this claim, laid together. -/
import Derived.Test.YtnomgmlfagiffaaDoorM0Uf
import Derived.Test.YtnomgmlfagiffaaDoorM2Uf
import Derived.Shelf.SlSortCmp.WholeK
import Derived.Maps.RangeWalk
import Derived.Maps.OwnSet
import Derived.Maps.OwnOps
import Derived.Maps.Ext
import Derived.Test.YtnomgmlfagiffaaDoorRows
import Derived.Test.YtnomgmlfagiffaaDoorCards
import Derived.Test.YtnomgmlfagiffaaDoorTie
import Derived.WalkKit
import Derived.ProofKit
import Derived.OpenShut
import Derived.Carry
import Derived.Deep.Strs
import Derived.Deep.DeepHandedRow
import Derived.Lib.LaidTab
import Derived.Deep.Slices
import Derived.OwnWalk
/- slices.SortFunc at Binding, ordered by Var: the row holds a permutation, rising. -/
set_option linter.unusedVariables false
namespace Go.Proofs.YtnomgmlfagiffaaDoor.T
open Go.RowKit Go.Shelf Go.Lib Go.Sort Go.Proofs.YtnomgmlfagiffaaDoorW.PrintWords
instance : Inhabited Bd := ⟨z44⟩
def encB (b : Bd) : List Value := [.int .i64 b.f0, .int .i64 b.f1.f0, .int .i64 b.f1.f1, .string b.f1.f2]
theorem encB_len (b : Bd) : (encB b).length = 4 := rfl
theorem encB_one (b : Bd) : ∀ v ∈ encB b, v.oneCell' = true := by
  intro v hv; simp [encB] at hv; rcases hv with rfl | rfl | rfl | rfl <;> rfl
theorem M_enc {w : World} {base : Nat} {ok : Nat → Prop} {x : Bd} {cs : List Value} : k44.M w base ok x cs ↔ cs = encB x :=
  ⟨fun h => k44_openM h, fun h => h ▸ k44_mkM w base ok x⟩
theorem reps_flat {R : Bd → List Value → Prop} (hR : ∀ p c, R p c → c = encB p) {ps : List Bd} {cs : List Value} (h : Reps R 4 ps cs) : cs = (flatK encB 4 ps.toArray).toList := by
  have hl : cs.length = (flatK encB 4 ps.toArray).toList.length := by rw [h.1]; simp
  refine List.ext_getElem hl fun t h1 h2 => ?_
  have ht : t < ps.length * 4 := by rw [← h.1]; exact h1
  have hj : t / 4 < ps.length := by omega
  have h3 := hR _ _ (h.2 (t / 4) _ (List.getElem?_eq_getElem hj))
  have h4 : cs[t] = (encB ps[t / 4])[t % 4]'(by rw [encB_len]; omega) := by
    have : ((cs.drop (t / 4 * 4)).take 4)[t % 4]? = (encB ps[t / 4])[t % 4]? := by rw [h3]
    rw [List.getElem?_take_of_lt (by omega), List.getElem?_drop, show t / 4 * 4 + t % 4 = t by omega, List.getElem?_eq_getElem h1, List.getElem?_eq_getElem (by rw [encB_len]; omega)] at this
    exact Option.some.inj this
  have h5 := get_flatK encB 4 ps.toArray t (by simpa using ht)
  rw [getElem!_pos (flatK encB 4 ps.toArray) t (by simpa using ht), getElem!_pos ps.toArray (t / 4) (by simpa using hj)] at h5
  refine h4.trans (Eq.trans ?_ (Eq.trans h5.symm (Array.getElem_toList (xs := flatK encB 4 ps.toArray) (by simpa using ht)).symm))
  simp only [List.getElem_toArray]
  rw [getElem!_pos (encB ps[t / 4]) (t % 4) (by rw [encB_len]; omega)]
theorem flat_reps {R : Bd → List Value → Prop} (hR : ∀ p, R p (encB p)) (d : Array Bd) : Reps R 4 d.toList (flatK encB 4 d).toList := by
  refine ⟨by simp, fun j p hj => ?_⟩
  obtain ⟨hl, rfl⟩ := List.getElem?_eq_some_iff.1 hj
  have hl' : j < d.size := by simpa using hl
  have : ((flatK encB 4 d).toList.drop (j * 4)).take 4 = encB d.toList[j] := by
    refine List.ext_getElem (by simp [encB_len]; omega) fun t h1 h2 => ?_
    have ht : t < 4 := by rw [encB_len] at h2; exact h2
    rw [List.getElem_take, List.getElem_drop, Array.getElem_toList, ← getElem!_pos, get_flatK encB 4 d _ (by omega), show (j * 4 + t) / 4 = j by omega, show (j * 4 + t) % 4 = t by omega, getElem!_pos d j hl', getElem!_pos _ t (by rw [encB_len]; exact ht)]
    rfl
  rw [this]
  exact hR _
def cfB (x y : Bd) : Int := if x.f0 < y.f0 then -1 else if x.f0 > y.f0 then 1 else 0
theorem cmp_f (x y : Int) : cmp_Compare_int.f x y = some (if x < y then -1 else if x > y then 1 else 0) := by
  unfold cmp_Compare_int.f cmp_isNaN_int.f
  simp
  split
  · rfl
  · split <;> rfl
theorem swoB : SWO (ltOf cfB) := by
  have e : ∀ x y, ltOf cfB x y = decide (x.f0 < y.f0) := by
    intro x y
    unfold ltOf cfB
    split
    · simp_all
    · split <;> simp_all
  refine ⟨fun x => ?_, fun x y z => ?_, fun x y z => ?_⟩ <;> simp only [e, decide_eq_true_eq, decide_eq_false_iff_not] <;> omega
set_option maxHeartbeats 2000000 in
set_option maxRecDepth 100000 in
/-- The closure that compares two binds by Var: it lays two blocks. -/
theorem byVar_calls (x y : Bd) (W : World) : Calls Tryd.prog 83 #[.agg (encB x).toArray, .agg (encB y).toArray] W fun e w' => e = .returned (.int .i64 (cfB x y)) ∧ ∃ q os', w' = grow (W.drewN q) os' := by
  have hcon : ∀ W', Calls Tryd.prog 76 #[.int .i64 x.f0, .int .i64 y.f0] W' fun e w' => e = .returned (.int .i64 (cfB x y)) ∧ Drawn0 W' w' := fun W' => cmp_Compare_int.calls x.f0 y.f0 _ W' (cmp_f _ _)
  generalize cfB x y = r at hcon ⊢
  show Calls Tryd.prog 83 #[.agg #[.int .i64 x.f0, .int .i64 x.f1.f0, .int .i64 x.f1.f1, .string x.f1.f2], .agg #[.int .i64 y.f0, .int .i64 y.f1.f0, .int .i64 y.f1.f1, .string y.f1.f2]] W _
  have hu := Tryd.underlying44
  go_enter Tryd.func83, Tryd.ntmps83
  go_wp2_with (go_at_call 76; refine (hcon _).mono ?_; rintro e w' ⟨rfl, hd⟩; obtain ⟨n, rfl⟩ := hd)
  go_ret
  exact ⟨rfl, _, _, by rw [alloc_eq_grow, alloc_eq_grow, grow_grow]; rfl⟩
theorem cmpLaysB (blk off size : Nat) (w : World) : CmpLays Tryd.prog 83 #[] encB 4 cfB blk off size w :=
  fun _ _ _ _ x y => byVar_calls x y _
theorem heap_sortedB {w : World} {g n : Nat} {os : Array Obj} {cur : Array Value} {e : TypeId} {fr : Nat × Nat} (d : Array Bd) (hb : w.heap[g]? = some (.cells cur e fr)) :
    (sortWorldK encB 4 w g 0 n d os).heap[g]? = some (.cells (putCells id 0 (flatK encB 4 d) cur) e fr) := by
  have hg : g < w.heap.size := (Array.getElem?_eq_some_iff.1 hb).1
  unfold sortWorldK putRowK
  rw [heap_grow_old _ _ (by simpa using hg)]
  simp [putRow, mapBlock, Sort.ahead, Array.getElem?_modify, hb, onCells]
theorem grownBy_sortedB {w : World} {g n : Nat} {os : Array Obj} (d : Array Bd) : w.grownBy (sortWorldK encB 4 w g 0 n d os) (some g) := by
  unfold sortWorldK putRowK
  refine ⟨rfl, rfl, rfl, by simp, fun k hk hne => ?_⟩
  rw [heap_grow_old _ _ (by simpa using hk)]
  have : g ≠ k := fun e => hne (by rw [e])
  simp [putRow, mapBlock, Sort.ahead, Array.getElem?_modify, this]
theorem take_putCellsB (cur : Array Value) (F : Array Value) (h : F.size ≤ cur.size) : (putCells id 0 F cur).toList.take F.size = F.toList := by
  apply List.ext_getElem?
  intro j
  by_cases hj : j < F.size
  · rw [List.getElem?_take_of_lt hj, Array.getElem?_toList]
    simp [putCells, hj, show j < cur.size by omega]
  · rw [List.getElem?_take_eq_none (by omega), List.getElem?_eq_none (by simp; omega)]
set_option maxHeartbeats 2000000 in
set_option maxRecDepth 100000 in
/-- slices.SortFunc at a Binding of the call's own. -/
theorem sortB_calls (g cap : Nat) (l : List Bd) (w : World) (base : Nat) (hR : Kd.R k44 44 w base (fun _ => True) (.slice (some ⟨g, 0, none⟩) l.length cap) l) (hlen : l.length < 4611686018427387904) :
    Calls Tryd.prog 82 #[.slice (some ⟨g, 0, none⟩) l.length cap, .func (.func 83) #[] #[]] w fun e w' =>
      e = .returned (.tuple #[]) ∧ w.grownBy w' (some g) ∧ ∃ l' : List Bd, l'.Perm l ∧ l'.Pairwise (fun a b => ¬ b.f0 < a.f0) ∧ Kd.R k44 44 w' base (fun _ => True) (.slice (some ⟨g, 0, none⟩) l.length cap) l' := by
  obtain ⟨_, inner, hown, hreps⟩ := hR
  have hin := reps_flat (fun p c h => M_enc.1 h) hreps
  change w.ownsRow base 44 4 _ _ _ at hown
  obtain ⟨hil, hown2⟩ := hown
  rcases hown2 with ⟨h0, _⟩ | ⟨g', cap', cur, hv, hbase, hb, hnc, hcm, hcs, htk⟩
  · cases h0
  cases hv
  have hblk : g < w.heap.size := (Array.getElem?_eq_some_iff.1 hb).1
  have hH : HoldsK encB 4 w g 0 l.toArray := by
    intro j hj
    have hj4 : j < l.length * 4 := by simpa using hj
    refine ⟨?_, by simp [World.frozen?, hb]⟩
    have h1 : (cur.toList.take (l.length * 4))[j]? = some ((flatK encB 4 l.toArray)[j]!) := by
      rw [htk, hin, getElem!_pos _ j hj, Array.getElem?_toList]
      exact Array.getElem?_eq_getElem hj
    rw [List.getElem?_take_of_lt hj4, Array.getElem?_toList] at h1
    simp only [World.cell?, hb, Nat.zero_add]
    simp only [Option.isSome_none, Bool.false_eq_true, if_false]
    exact h1
  have eg : ∀ args w, (callFunc 83 args).run Tryd.prog w = .ok (.enter 83 args) w := enters_of Tryd.func83 (by kernel_rfl) rfl
  have L := Tryd.pdqBd
  have hsz : l.toArray.size < 4611686018427387904 := by simpa using hlen
  have hlim : Lib.bitLen l.toArray.size < 4611686018427387904 := Nat.lt_of_le_of_lt (Lib.bitLen_le l.toArray.size 62 (by omega) (by omega)) (by omega)
  have hp := AnyQ.pdqsortCmpFunc_all (P := Tryd.prog) (ρ := Tryd.pdqBd_ren) L 4 Tryd.isAgg44 Tryd.sizeOf44 encB cfB 83 #[] swoB g 0 cap l.toArray w eg (cmpLaysB g 0 _ w) ⟨encB_len, encB_one, hH, hblk⟩ (l.toArray.size + 1) 0 l.toArray.size (Lib.bitLen l.toArray.size) l.toArray w (by omega) rfl (SWK.start hH) (Nat.zero_le _) (Nat.le_refl _) hsz hlim (Or.inl rfl)
  have hl : Calls Tryd.prog 90 #[.int .u64 (l.toArray.size : Int)] w fun e w' => e = .returned (.int .i64 (Lib.bitLen l.toArray.size : Nat)) ∧ w' = w := by
    have h := Any.bits_Len (SlLaysF0.n15.bits (P := Tryd.prog) (ρ := Tryd.pdqBd_ren) { L with }) (l.toArray.size : Int) w (by omega) (by omega)
    rwa [Int.toNat_natCast] at h
  have wr : IntKind.u64.wrap (l.toArray.size : Int) = l.toArray.size := by simp [IntKind.wrap, IntKind.bits, IntKind.signed]; simp at hsz; omega
  have hs := pdq_sorts (ltOf cfB) swoB l.toArray 0 l.toArray.size (Lib.bitLen l.toArray.size) true true (Nat.zero_le _) (Nat.le_refl _) (Or.inl rfl)
  generalize pdq (ltOf cfB) l.toArray 0 l.toArray.size (Lib.bitLen l.toArray.size) true true = d' at hp hs
  have hq : ∀ n os, w.grownBy (sortWorldK encB 4 w g 0 n d' os) (some g) ∧ ∃ l' : List Bd, l'.Perm l ∧ l'.Pairwise (fun a b => ¬ b.f0 < a.f0) ∧ Kd.R k44 44 (sortWorldK encB 4 w g 0 n d' os) base (fun _ => True) (.slice (some ⟨g, 0, none⟩) l.length cap) l' := by
    intro n os
    obtain ⟨⟨p1, p2, p3⟩, p4⟩ := hs
    have hl' : d'.toList.length = l.length := by simpa using p1
    refine ⟨grownBy_sortedB d', d'.toList, ?_, ?_, ?_⟩
    · have e1 : d'.toList.take l.length = d'.toList := by rw [← hl']; exact List.take_length
      simpa [e1] using p3
    · rw [List.pairwise_iff_getElem]
      intro i j hi hj hij
      have h4 := p4 i j (Nat.zero_le _) hij (by simp only [Array.length_toList] at hj; omega)
      simp only [Array.length_toList] at hi hj
      rw [getElem!_pos d' i hi, getElem!_pos d' j hj] at h4
      simp only [Array.getElem_toList]
      unfold ltOf cfB at h4
      intro hlt
      rw [if_pos hlt] at h4
      simp at h4
    · have hf : (flatK encB 4 d').size = l.length * 4 := by rw [size_flatK, ← hl']; simp
      have ho : (sortWorldK encB 4 w g 0 n d' os).ownsRow base 44 4 (.slice (some ⟨g, 0, none⟩) l.length cap) d'.toList.length (flatK encB 4 d').toList := ⟨by simp [hf, hl'], .inr ⟨g, cap, _, by rw [hl'], hbase, heap_sortedB d' hb, by rw [hl']; exact hnc, hcm, by simp [putCells, hcs], by rw [hl', ← hf]; exact take_putCellsB cur _ (by rw [hf, hcs]; exact Nat.mul_le_mul_right 4 hnc)⟩⟩
      exact ⟨fun _ _ => trivial, (flatK encB 4 d').toList, ho, flat_reps (fun p => M_enc.2 rfl) d'⟩
  simp only [List.size_toArray] at hp hl wr
  clear hs hH hreps hin htk hcs hb hil hlim hsz
  go_enter Tryd.func82, Tryd.ntmps82
  go_wp2_with (first | (go_at_call 90; refine hl.mono ?_; rintro e w' ⟨rfl, rfl⟩) | (go_at_call 89; refine hp.mono ?_; rintro e w' ⟨rfl, n, os, rfl⟩))
  go_end0
  exact ⟨rfl, (hq n os).1, (hq n os).2⟩
end Go.Proofs.YtnomgmlfagiffaaDoor.T
/- Maps from int to Term, as lists in rising order; the walk of term.sorted. -/
set_option linter.unusedVariables false
namespace Go.Proofs.YtnomgmlfagiffaaDoor.T
open Go.RowKit Go.Maps Go.Proofs.YtnomgmlfagiffaaDoorW.PrintWords Go.Proofs.YtnomgmlfagiffaaDoorW.PrintLast
theorem lawI : Keyed Tryd.prog 3 := int_keyed Tryd.underlying3
def encT (t : Tm) : Value := .agg #[.int .i64 t.f0, .int .i64 t.f1, .string t.f2]
def decT : Value → Option Tm
  | .agg xs => match xs.toList with | [.int .i64 a, .int .i64 b, .string s] => some ⟨a, b, s⟩ | _ => none
  | _ => none
theorem decT_inv {v : Value} {t : Tm} (h : decT v = some t) : v = encT t := by
  cases v with
  | agg xs =>
    obtain ⟨l⟩ := xs
    simp only [decT] at h
    split at h
    · have := Option.some.inj h
      subst this
      rfl
    · cases h
  | _ => simp [decT] at h
def RT (v : Value) : Option (DataW Tm × List MemPlace) := (decT v).map fun t => (.held t, [])
theorem RT_enc (t : Tm) : RT (encT t) = some (.held t, []) := rfl
theorem RT_inv {v : Value} {y : DataW Tm × List MemPlace} (h : RT v = some y) : ∃ t, v = encT t ∧ y = (.held t, []) := by
  unfold RT at h
  obtain ⟨t, ht, rfl⟩ := Option.map_eq_some_iff.1 h
  exact ⟨t, decT_inv ht, rfl⟩
/-- The map's datum. -/
def entB (b : Bd) : Lit × DataW Tm := (.int .i64 b.f0, .held b.f1)
def mapD (m : List Bd) : DataW Tm := .map (m.map entB)
/-- Strictly rising by Var. -/
def Rising (m : List Bd) : Prop := m.Pairwise fun a b => a.f0 < b.f0
theorem putM_mem {v : Int} {t : Tm} : ∀ {m : List Bd} {b : Bd}, b ∈ putM v t m → b = ⟨v, t⟩ ∨ b ∈ m
  | [], b, h => by simp [putM] at h; exact .inl h
  | c :: r, b, h => by
    unfold putM at h
    split at h
    · simp only [List.mem_cons] at h ⊢; exact h
    · split at h
      · simp only [List.mem_cons] at h ⊢; rcases h with h | h
        · exact .inl h
        · exact .inr (.inr h)
      · simp only [List.mem_cons] at h ⊢; rcases h with h | h
        · exact .inr (.inl h)
        · rcases putM_mem h with h | h
          · exact .inl h
          · exact .inr (.inr h)
theorem putM_rising {v : Int} {t : Tm} : ∀ {m : List Bd}, Rising m → Rising (putM v t m)
  | [], _ => by simp [putM, Rising]
  | c :: r, h => by
    obtain ⟨h1, h2⟩ := List.pairwise_cons.1 h
    unfold putM
    split
    · rename_i hv
      refine List.pairwise_cons.2 ⟨fun b hb => ?_, h⟩
      rcases List.mem_cons.1 hb with rfl | hb
      · exact hv
      · have := h1 b hb; show v < b.f0; omega
    · split
      · rename_i hv
        refine List.pairwise_cons.2 ⟨fun b hb => ?_, h2⟩
        have := h1 b hb; show v < b.f0; omega
      · refine List.pairwise_cons.2 ⟨fun b hb => ?_, putM_rising h2⟩
        rcases putM_mem hb with rfl | hb
        · show c.f0 < v; omega
        · exact h1 b hb
theorem sameKey_int (x y : Int) : Lit.sameKey (.int .i64 x) (.int .i64 y) = (x == y) := by
  simp only [Lit.sameKey, true_and]
  rw [Bool.eq_iff_iff]
  simp
theorem filter_lt {v : Int} : ∀ {r : List Bd}, (∀ b ∈ r, v < b.f0) → r.filter (fun b => !(b.f0 == v)) = r := by
  intro r h
  rw [List.filter_eq_self]
  intro b hb
  have := h b hb
  have e : (b.f0 == v) = false := by simp; omega
  rw [e]; rfl
def insB (v : Int) (t : Tm) : List Bd → List Bd
  | [] => [⟨v, t⟩]
  | c :: r => if v < c.f0 then ⟨v, t⟩ :: c :: r else c :: insB v t r
theorem insert_ent {v : Int} {t : Tm} : ∀ (r : List Bd), DataW.insert (entB ⟨v, t⟩) (r.map entB) = (insB v t r).map entB
  | [] => rfl
  | c :: r => by
    simp only [List.map_cons, DataW.insert, insB]
    have e : (entB ⟨v, t⟩).1.before (entB c).1 = decide (v < c.f0) := rfl
    rw [e]
    by_cases h : v < c.f0
    · rw [if_pos (by simpa using h), if_pos h]; rfl
    · rw [if_neg (by simpa using h), if_neg h, List.map_cons, ← insert_ent r]
theorem ins_put {v : Int} {t : Tm} : ∀ {m : List Bd}, Rising m → insB v t (m.filter fun b => !(b.f0 == v)) = putM v t m
  | [], _ => rfl
  | c :: r, h => by
    obtain ⟨h1, h2⟩ := List.pairwise_cons.1 h
    unfold putM
    by_cases hv : v < c.f0
    · rw [if_pos hv, filter_lt (fun b hb => by rcases List.mem_cons.1 hb with rfl | hb; exact hv; have := h1 b hb; omega)]
      simp [insB, hv]
    · rw [if_neg hv]
      by_cases he : c.f0 = v
      · rw [if_pos he, List.filter_cons_of_neg (by simp [he]), filter_lt (fun b hb => by have := h1 b hb; omega)]
        cases r with
        | nil => rfl
        | cons d s => simp [insB, show v < d.f0 by have := h1 d (by simp); omega]
      · rw [if_neg he, List.filter_cons_of_pos (by simpa using he)]
        simp only [insB]
        rw [if_neg hv, ins_put h2]
theorem put_mapD {v : Int} {t : Tm} {m : List Bd} (h : Rising m) : (mapD m).put (.int .i64 v) (.held t) = mapD (putM v t m) := by
  unfold mapD DataW.put
  dsimp only
  have e : (m.map entB).filter (fun p => !p.1.sameKey (.int .i64 v)) = (m.filter fun b => !(b.f0 == v)).map entB := by
    rw [List.filter_map]
    congr 1
    apply List.filter_congr
    intro b _
    simp only [Function.comp, entB]
    rw [sameKey_int]
  rw [e]
  have := insert_ent (v := v) (t := t) (m.filter fun b => !(b.f0 == v))
  rw [ins_put h] at this
  rw [← this]
  rfl
theorem has_mapD (v : Int) : ∀ (m : List Bd), Maps.has (mapD m) (.int .i64 v) = (getM m v).isSome
  | [] => rfl
  | c :: r => by
    have ih := has_mapD v r
    unfold mapD getM Maps.has at ih ⊢
    simp only [List.map_cons, List.any_cons, List.find?_cons, entB] at ih ⊢
    rw [sameKey_int]
    cases h : c.f0 == v with
    | true => simp
    | false => simpa using ih
theorem atKey_mapD (v : Int) (z : DataW Tm) : ∀ (m : List Bd), (mapD m).atKey (.int .i64 v) z = match getM m v with | some t => .held t | none => z
  | [] => rfl
  | c :: r => by
    have ih := atKey_mapD v z r
    unfold mapD getM DataW.atKey at ih ⊢
    simp only [List.map_cons, List.find?_cons, entB] at ih ⊢
    rw [sameKey_int]
    cases h : c.f0 == v with
    | true => simp
    | false => simpa using ih
theorem getM_mem {v : Int} {t : Tm} : ∀ {m : List Bd}, getM m v = some t → (⟨v, t⟩ : Bd) ∈ m
  | [], h => by simp [getM] at h
  | c :: r, h => by
    unfold getM at h
    rw [List.find?_cons] at h
    cases he : c.f0 == v with
    | true =>
      rw [he] at h
      simp at h he
      subst h he
      exact .head _
    | false =>
      rw [he] at h
      exact .tail _ (getM_mem (m := r) h)
theorem rising_getM : ∀ {m : List Bd}, Rising m → ∀ {b : Bd}, b ∈ m → getM m b.f0 = some b.f1
  | c :: r, h, b, hb => by
    obtain ⟨h1, h2⟩ := List.pairwise_cons.1 h
    unfold getM
    rw [List.find?_cons]
    rcases List.mem_cons.1 hb with rfl | hb
    · simp
    · have h3 := h1 b hb
      have e : (c.f0 == b.f0) = false := by simp; omega
      rw [e]
      exact rising_getM h2 hb
/-- Two lists of the same elements, each strictly rising, are one. -/
theorem rising_eq : ∀ {l m : List Bd}, Rising l → Rising m → (∀ b, b ∈ l ↔ b ∈ m) → l = m
  | [], [], _, _, _ => rfl
  | [], c :: r, _, _, h => by have := (h c).2 (.head _); simp at this
  | c :: r, [], _, _, h => by have := (h c).1 (.head _); simp at this
  | a :: l, c :: m, h1, h2, h => by
    obtain ⟨h3, h4⟩ := List.pairwise_cons.1 h1
    obtain ⟨h5, h6⟩ := List.pairwise_cons.1 h2
    have e : a = c := by
      rcases List.mem_cons.1 ((h a).1 (.head _)) with h7 | h7
      · exact h7
      · rcases List.mem_cons.1 ((h c).2 (.head _)) with h8 | h8
        · exact h8.symm
        · have := h5 a h7; have := h3 c h8; omega
    subst e
    have : l = m := rising_eq h4 h6 fun b => by
      constructor
      · intro hb
        rcases List.mem_cons.1 ((h b).1 (.tail _ hb)) with rfl | h7
        · have := h3 b hb; omega
        · exact h7
      · intro hb
        rcases List.mem_cons.1 ((h b).2 (.tail _ hb)) with rfl | h7
        · have := h5 b hb; omega
        · exact h7
    rw [this]
/-- A list of m's entries, sorted by Var, is m. -/
theorem sorted_unique {m l l' : List Bd} (hm : Rising m) (hl : l.Perm m) (hl' : l'.Perm l) (hs : l'.Pairwise fun a b => ¬ b.f0 < a.f0) : l' = m := by
  have hp := hl'.trans hl
  have hr : Rising l' := by
    have hk : (l'.map (·.f0)).Nodup := by
      have : (m.map (·.f0)).Nodup := by
        rw [List.nodup_iff_pairwise_ne, List.pairwise_map]
        exact hm.imp fun {a b} hab => by omega
      exact ((hp.map _).nodup_iff).2 this
    rw [List.nodup_iff_pairwise_ne, List.pairwise_map] at hk
    exact (hs.and hk).imp fun {a b} ⟨h1, h2⟩ => by omega
  exact rising_eq hr hm fun b => hp.mem_iff
/-- What has been read of the map while the loop is under way. -/
def Got (m : List Bd) (left : Lit → Bool) (l : List Bd) : Prop := l.Perm (m.filter fun b => !left (.int .i64 b.f0))
theorem Got.start (m : List Bd) : Got m (Maps.has (mapD m)) [] := by
  unfold Got
  rw [List.filter_eq_nil_iff.2]
  intro b hb
  have : Maps.has (mapD m) (.int .i64 b.f0) = true := by
    unfold mapD Maps.has
    simp only [List.any_map, List.any_eq_true]
    exact ⟨b, hb, by simp only [Function.comp, entB]; rw [sameKey_int]; simp⟩
  simp [this]
theorem filter_step {left : Lit → Bool} {x : Int} {t : Tm} (hl : left (.int .i64 x) = true) : ∀ {m : List Bd}, Rising m → (⟨x, t⟩ : Bd) ∈ m →
    (m.filter fun b => !(left (.int .i64 b.f0) && !(Lit.sameKey (.int .i64 b.f0) (.int .i64 x)))).Perm (⟨x, t⟩ :: m.filter fun b => !left (.int .i64 b.f0))
  | c :: r, hm, h => by
    obtain ⟨h1, h2⟩ := List.pairwise_cons.1 hm
    by_cases hc : c.f0 = x
    · have e : c = ⟨x, t⟩ := by
        rcases List.mem_cons.1 h with h | h
        · exact h.symm
        · have := h1 _ h; simp at this; omega
      subst e
      rw [List.filter_cons_of_pos (by rw [sameKey_int]; simp), List.filter_cons_of_neg (by simp [hl])]
      refine List.Perm.cons _ ?_
      refine List.Perm.of_eq (List.filter_congr fun b hb => ?_)
      have := h1 b hb
      rw [sameKey_int, show (b.f0 == x) = false by simp; simp at this; omega]
      simp
    · have hin : (⟨x, t⟩ : Bd) ∈ r := by
        rcases List.mem_cons.1 h with h | h
        · exact absurd (by rw [← h]) hc
        · exact h
      have ih := filter_step hl h2 hin
      cases hlc : left (.int .i64 c.f0) with
      | true =>
        rw [List.filter_cons_of_neg (by rw [sameKey_int]; simp [hlc, hc]), List.filter_cons_of_neg (by simp [hlc])]
        exact ih
      | false =>
        rw [List.filter_cons_of_pos (by simp [hlc]), List.filter_cons_of_pos (by simp [hlc])]
        exact (ih.cons c).trans (List.Perm.swap _ _ _)
theorem Got.step {m l : List Bd} {left : Lit → Bool} {x : Int} {t : Tm} (h : Got m left l) (hm : Rising m) (hl : left (.int .i64 x) = true) (ht : (⟨x, t⟩ : Bd) ∈ m) : Got m (fun z => left z && !z.sameKey (.int .i64 x)) (l ++ [⟨x, t⟩]) := by
  unfold Got at *
  exact (List.perm_append_singleton _ _).trans ((h.cons _).trans (filter_step hl hm ht).symm)
theorem Got.done {m l : List Bd} {left : Lit → Bool} (h : Got m left l) (h0 : ∀ kl, left kl = false) : l.Perm m := by
  unfold Got at h
  have e : (m.filter fun b => !left (.int .i64 b.f0)) = m := List.filter_eq_self.2 fun b _ => by simp [h0]
  rwa [e] at h
theorem Got.len {m l : List Bd} {left : Lit → Bool} (h : Got m left l) : l.length ≤ m.length := by
  rw [h.length_eq]; exact List.length_filter_le _ _
end Go.Proofs.YtnomgmlfagiffaaDoor.T
/- The frames of the laws: arguments opened, what the row lists read off, the arguments handed back. -/
set_option linter.unusedVariables false
namespace Go.Proofs.YtnomgmlfagiffaaDoor.T
open Go.ChangeShapes Go.WideShapes Go.ChangeAt Go.RowKit Go.Deep Go.Proofs.YtnomgmlfagiffaaDoorW.PrintWords
theorem cI : Tryd.prog.cellsOf 3 = 1 := by kernel_rfl
theorem cS : Tryd.prog.cellsOf 9 = 1 := by kernel_rfl
theorem cT : Tryd.prog.cellsOf 23 = 3 := by kernel_rfl
theorem cB : Tryd.prog.cellsOf 44 = 4 := by kernel_rfl
section
variable {H : Type} {enc : TypeId × Value → H}
def dT (t : Tm) : DataW H := .agg [.lit (.int .i64 t.f0), .lit (.int .i64 t.f1), .lit (.string t.f2.data.toList)]
theorem wf_inI {x : Int} (h : (Lit.int .i64 x).wf = true) : inI x = true := by
  simp [Lit.wf, IntKind.min, IntKind.max, IntKind.bits, IntKind.signed] at h
  simp [inI]
  omega
set_option maxRecDepth 100000 in
theorem open_T {W : World} {base : Nat} {sp : Nat → Bool} {held : Bool} {fuel : Nat} {cs : List Value} {x : DataW H × List MemPlace} (h : DataW.trod enc Tryd.prog W base sp held fuel 23 cs = some x) :
    ∃ t : Tm, cs = [.int .i64 t.f0, .int .i64 t.f1, .string t.f2] ∧ x = (dT t, []) ∧ okT t = true := by
  obtain ⟨y0, y1, y2, k, rfl, hl, u0, u1, u2⟩ := trod_struct3 Tryd.underlying23 h
  have hl3 : cs.length = 3 := by rw [hl, cT]
  match cs, hl3 with
  | [v0, v1, v2], _ =>
    simp only [cI, cS, List.drop, List.take] at u0 u1 u2
    obtain ⟨a, e0, rfl, w0⟩ := DataW.trod_int Tryd.underlying3 u0
    obtain ⟨b, e1, rfl, w1⟩ := DataW.trod_int Tryd.underlying3 u1
    obtain ⟨s, e2, rfl, w2⟩ := DataW.trod_string Tryd.underlying9 u2
    simp only [List.cons.injEq, and_true] at e0 e1 e2
    subst e0; subst e1; subst e2
    refine ⟨⟨a, b, s⟩, rfl, rfl, ?_⟩
    simp only [okT, Bool.and_eq_true, decide_eq_true_eq]
    exact ⟨wf_inI w0, wf_inI w1, by simpa [maxLen] using w2⟩
/-- What is read as before, behind the call. -/
theorem trodAll_below {P : Program} (hl : laidOutB P = true) {W W' : World} (hb : Below W.heap.size W W') : ∀ {ts : List TypeId} {vs : List Value} {ds : List (DataW H)} {ps : List MemPlace},
    (∀ t ∈ ts, P.readableRec t = true ∧ t < P.types.size) → DataW.TrodAll enc P W 0 (fun _ => true) true ts vs ds ps → (∀ x ∈ ps, x.block < W.heap.size) → DataW.TrodAll enc P W' 0 (fun b => decide (b < W.heap.size)) true ts vs ds ps
  | [], [], [], ps, _, h, _ => h
  | t :: ts, v :: vs, d :: ds, ps, hr, h, hlt => by
    obtain ⟨p, q, h1, h2, rfl⟩ := h
    exact ⟨p, q, h1.elim fun n hn => Below.trod hl (hr t (.head _)).1 (hr t (.head _)).2 ⟨n, hn⟩ hb (fun x hx => hlt x (List.mem_append_left _ hx)), trodAll_below hl hb (fun t ht => hr t (.tail _ ht)) h2 (fun x hx => hlt x (List.mem_append_right _ hx)), rfl⟩
  | [], _ :: _, _, _, _, h, _ => h.elim
  | [], [], _ :: _, _, _, h, _ => h.elim
  | _ :: _, [], _, _, _, h, _ => h.elim
  | _ :: _, _ :: _, [], _, _, h, _ => h.elim
/-- The post of a law that answers true and leaves what was there. -/
theorem post_true {P : Program} {f : Func} {s : ChangeSpec} {tb : TypeId} (hl : laidOutB P = true) (hr : ∀ t ∈ f.params.toList, P.readableRec t = true ∧ t < P.types.size) (hv : s.vars = []) (hrt : f.resultTypes = #[tb]) (hu : P.underlying tb = some .bool)
    {W W' : World} {args : Array Value} {ds gs : List (DataW H)} {before : List MemPlace} (hW : DataW.Whole enc P f.params.toList s.vars false W args.toList ds gs before)
    (hfn : s.fn H (ds ++ gs) = { results := [.lit (.bool true)], args := ds }) (hb : Below W.heap.size W W') : s.post enc P f false true false false W args (.bool true) W' := by
  have hW0 := hW
  have hlt := hW.lt
  obtain ⟨p, q, hA, hV, rfl, hfz, hnd⟩ := hW
  rw [hv] at hV
  obtain ⟨rfl, rfl⟩ := trodVars_none hV
  refine ⟨ds, [], p ++ [], [], p, [], hW0, ?_, ?_, ?_, hb.frame _, fun h => by cases h⟩
  · rw [hfn, hrt]
    exact trodAll_mk1 (shut_bool hu _)
  · rw [hfn]
    exact trodAll_below hl hb hr hA (fun x hx => hlt x (List.mem_append_left _ hx))
  · rw [hfn, hv]
    exact rfl
end
end Go.Proofs.YtnomgmlfagiffaaDoor.T
/- The frames of the laws: bindings and atoms opened; the bound on what is handed in. -/
set_option linter.unusedVariables false
set_option linter.unusedSimpArgs false
namespace Go.Proofs.YtnomgmlfagiffaaDoor.T
open Go.ChangeShapes Go.WideShapes Go.ChangeAt Go.RowKit Go.Deep Go.Proofs.YtnomgmlfagiffaaDoorW.PrintWords
section
variable {H : Type} {enc : TypeId × Value → H}
def dB (b : Bd) : DataW H := .agg [.lit (.int .i64 b.f0), dT b.f1]
set_option maxRecDepth 100000 in
theorem open_B {W : World} {base : Nat} {sp : Nat → Bool} {held : Bool} {fuel : Nat} {cs : List Value} {x : DataW H × List MemPlace} (h : DataW.trod enc Tryd.prog W base sp held fuel 44 cs = some x) :
    ∃ b : Bd, cs = encB b ∧ x.1 = dB b ∧ okB b = true := by
  obtain ⟨y0, y1, k, rfl, hl, u0, u1⟩ := trod_struct2 Tryd.underlying44 h
  have hl4 : cs.length = 4 := by rw [hl, cB]
  match cs, hl4 with
  | [v0, v1, v2, v3], _ =>
    simp only [cI, cT, List.drop, List.take] at u0 u1
    obtain ⟨a, e0, rfl, w0⟩ := DataW.trod_int Tryd.underlying3 u0
    obtain ⟨t, e1, rfl, ot⟩ := open_T u1
    simp only [List.cons.injEq, and_true] at e0 e1
    subst e0
    obtain ⟨rfl, rfl, rfl⟩ := e1
    refine ⟨⟨a, t⟩, rfl, rfl, ?_⟩
    simp only [okB, Bool.and_eq_true]
    exact ⟨wf_inI w0, ot⟩
theorem add_add' (a : Addr) (m n : Nat) : (a.add m).add n = a.add (m + n) := by
  unfold Addr.add
  by_cases hm : m = 0
  · subst hm; simp
  · by_cases hn : n = 0
    · subst hn; simp [hm]
    · simp [hm, hn, Nat.add_assoc]
set_option maxRecDepth 100000 in
/-- A slice of such elements, as the walks read it. -/
theorem open_list {α : Type} {W : World} {base : Nat} {sp : Nat → Bool} {held : Bool} {fuel : Nat} {t e : TypeId} {sz : Nat} {cs : List Value} {x : DataW H × List MemPlace} (d : Kd α) (encL : α → List Value) (dat : α → DataW H) (ok : α → Bool)
    (hopen : ∀ (fuel : Nat) (cs : List Value) (y : DataW H × List MemPlace), DataW.trod enc Tryd.prog W base sp held fuel e cs = some y → ∃ b : α, cs = encL b ∧ y.1 = dat b ∧ ok b = true)
    (hsz : Tryd.prog.cellsOf e = sz) (hd : d.sz = sz) (hK : ∀ b, d.K W b (encL b)) (ht : Tryd.prog.underlying t = some (.slice e)) (h : DataW.trod enc Tryd.prog W base sp held fuel t cs = some x) :
    ∃ (A : Option Addr) (c : Nat) (l : List α), cs = [.slice A l.length c] ∧ l.length ≤ c ∧ d.C W A l.length l ∧ l.all ok = true ∧ ((x.1 = .nil ∧ l = []) ∨ ∃ r, x.1 = .slice (l.map dat) r) := by
  rcases open_slice ht h with ⟨rfl, rfl⟩ | ⟨a, len, cap, m, n, D, Pl, rfl, hb, hl, hm, hmm, rfl, hx⟩
  · exact ⟨none, 0, [], rfl, Nat.le_refl _, ⟨rfl, by simp, fun h => by simp at h⟩, rfl, .inl ⟨rfl, rfl⟩⟩
  · have hlm : len ≤ m := by rw [hmm]; split <;> omega
    have each : ∀ i, i < len → ∃ b : α, (∀ (j : Nat) (u : Value), (encL b)[j]? = some u → W.cell? (a.add (i * sz + j)) = some u) ∧ D i = dat b ∧ ok b = true := by
      intro i hi
      obtain ⟨cs', h1, h2⟩ := hx i (by omega)
      obtain ⟨b, rfl, hdb, hob⟩ := hopen _ _ _ h2
      rw [hsz] at h1
      obtain ⟨_, hlen, hcell⟩ := World.cells?_some h1
      refine ⟨b, fun j u hu => ?_, hdb, hob⟩
      have hj : j < sz := by rw [← hlen]; exact (List.getElem?_eq_some_iff.1 hu).1
      have := hcell j hj
      rw [add_add'] at this
      rw [this, hu]
    rcases Nat.eq_zero_or_pos len with h0 | h0
    · subst h0
      exact ⟨some a, cap, [], rfl, Nat.zero_le _, ⟨rfl, by simp, fun h => by simp at h⟩, rfl, .inr ⟨_, rfl⟩⟩
    · obtain ⟨b0, _⟩ := each 0 h0
      letI : Inhabited α := ⟨b0⟩
      obtain ⟨B, hB⟩ := choose_lt each
      have hlen : ((List.range len).map B).length = len := by simp
      refine ⟨some a, cap, (List.range len).map B, by rw [hlen], by rw [hlen]; exact hl, ⟨rfl, by rw [hlen]; simp [maxLen] at hm; omega, fun _ => ⟨a, rfl, fun j p hj => ?_⟩⟩, ?_, .inr ⟨(List.range (m - len)).map fun j => D (len + j), ?_⟩⟩
      · obtain ⟨hj1, hj2⟩ := List.getElem?_eq_some_iff.1 hj
        simp only [List.getElem_map, List.getElem_range] at hj2
        rw [hlen] at hj1
        subst hj2
        exact ⟨encL (B j), d.K_len (hK _), hK _, by rw [hd]; exact (hB j hj1).1⟩
      · rw [List.all_eq_true]
        intro b hb
        obtain ⟨i, hi, rfl⟩ := List.mem_map.1 hb
        exact (hB i (List.mem_range.1 hi)).2.2
      · rw [List.map_map, List.map_congr_left (fun i hi => (hB i (List.mem_range.1 hi)).2.1)]
        rfl
theorem open_Bs {W : World} {base : Nat} {sp : Nat → Bool} {held : Bool} {fuel : Nat} {cs : List Value} {x : DataW H × List MemPlace} (h : DataW.trod enc Tryd.prog W base sp held fuel 28 cs = some x) :
    ∃ (A : Option Addr) (c : Nat) (l : List Bd), cs = [.slice A l.length c] ∧ l.length ≤ c ∧ Kd.C k44 W A l.length l ∧ l.all okB = true ∧ ((x.1 = .nil ∧ l = []) ∨ ∃ r, x.1 = .slice (l.map dB) r) :=
  open_list k44 encB dB okB (fun _ _ _ h => open_B h) cB rfl (fun b => k44_mk W b) Tryd.underlying28 h
def encTs (t : Tm) : List Value := [.int .i64 t.f0, .int .i64 t.f1, .string t.f2]
theorem open_Ts {W : World} {base : Nat} {sp : Nat → Bool} {held : Bool} {fuel : Nat} {cs : List Value} {x : DataW H × List MemPlace} (h : DataW.trod enc Tryd.prog W base sp held fuel 24 cs = some x) :
    ∃ (A : Option Addr) (c : Nat) (l : List Tm), cs = [.slice A l.length c] ∧ l.length ≤ c ∧ Kd.C k23 W A l.length l ∧ l.all okT = true ∧ ((x.1 = .nil ∧ l = []) ∨ ∃ r, x.1 = .slice (l.map dT) r) :=
  open_list k23 encTs dT okT (fun _ _ _ h => by obtain ⟨t, e, hx, ho⟩ := open_T h; exact ⟨t, e, by rw [hx], ho⟩) cT rfl (fun b => k23_mk W b) Tryd.underlying24 h
/-- What an atom reads as: its qualifier, its name, its arguments. -/
def isA (d : DataW H) (t : Tm) (nm : ByteArray) (l : List Tm) : Prop := ∃ dl, d = .agg [dT t, .lit (.string nm.data.toList), dl] ∧ ((dl = .nil ∧ l = []) ∨ ∃ r, dl = .slice (l.map dT) r)
def isB (d : DataW H) (l : List Bd) : Prop := (d = .nil ∧ l = []) ∨ ∃ r, d = .slice (l.map dB) r
set_option maxRecDepth 100000 in
theorem arg_A {W : World} {base b0 : Nat} {sp : Nat → Bool} {held : Bool} {r : Reach} {v : Value} {d : DataW H} {ps : List MemPlace} (hval : Value.okWide Tryd.prog W r b0 26 v) (h : DataW.Trod enc Tryd.prog W base sp held 26 v d ps) :
    ∃ (t : Tm) (nm : ByteArray) (A : Option Addr) (c : Nat) (l : List Tm), v = .agg #[.int .i64 t.f0, .int .i64 t.f1, .string t.f2, .string nm, .slice A l.length c] ∧ l.length ≤ c ∧ Kd.C k23 W A l.length l ∧ okT t = true ∧ l.all okT = true ∧ isA d t nm l := by
  obtain ⟨cs, rfl, hcs⟩ := okWide_struct Tryd.underlying26 hval
  obtain ⟨fuel, h⟩ := h
  have h := (show DataW.trod enc Tryd.prog W base sp held fuel 26 cs.toList = some (d, ps) by simpa [Value.cells] using h)
  obtain ⟨y0, y1, y2, k, hx, hl, u0, u1, u2⟩ := trod_struct3 Tryd.underlying26 h
  have hl5 : cs.toList.length = 5 := by rw [hl]; kernel_rfl
  obtain ⟨cl⟩ := cs
  match cl, hl5 with
  | [v0, v1, v2, v3, v4], _ =>
    simp only [cT, cS, (show Tryd.prog.cellsOf 24 = 1 by kernel_rfl), List.drop, List.take] at u0 u1 u2
    obtain ⟨t, e0, rfl, ot⟩ := open_T u0
    obtain ⟨nm, e1, rfl, w1⟩ := DataW.trod_string Tryd.underlying9 u1
    obtain ⟨A, c, l, e2, hlc, hC, hok, hd⟩ := open_Ts u2
    simp only [List.cons.injEq, and_true] at e0 e1 e2
    obtain ⟨rfl, rfl, rfl⟩ := e0
    subst e1 e2
    injection hx with hx _
    exact ⟨t, nm, A, c, l, rfl, hlc, hC, ot, hok, y2.1, hx, hd⟩
set_option maxRecDepth 100000 in
theorem arg_B {W : World} {base b0 : Nat} {sp : Nat → Bool} {held : Bool} {r : Reach} {v : Value} {d : DataW H} {ps : List MemPlace} (hval : Value.okWide Tryd.prog W r b0 28 v) (h : DataW.Trod enc Tryd.prog W base sp held 28 v d ps) :
    ∃ (A : Option Addr) (c : Nat) (l : List Bd), v = .slice A l.length c ∧ l.length ≤ c ∧ Kd.C k44 W A l.length l ∧ l.all okB = true ∧ isB d l := by
  obtain ⟨A0, n0, c0, rfl⟩ := okWide_slice Tryd.underlying28 hval
  obtain ⟨fuel, h⟩ := h
  obtain ⟨A, c, l, e, hlc, hC, hok, hd⟩ := open_Bs (show DataW.trod enc Tryd.prog W base sp held fuel 28 [.slice A0 n0 c0] = some (d, ps) by simpa [Value.cells] using h)
  simp only [List.cons.injEq, and_true] at e
  rw [e]
  exact ⟨A, c, l, rfl, hlc, hC, hok, hd⟩
theorem bulk_list {α : Type} (dat : α → DataW H) (hd : ∀ x, 1 ≤ Rows.uptoBulk (dat x)) : ∀ l : List α, l.length ≤ Rows.uptoBulkAll (l.map dat)
  | [] => by simp
  | a :: r => by
    have := bulk_list dat hd r
    have := hd a
    simp only [List.map_cons, Rows.uptoBulkAll, List.length_cons]
    omega
theorem bulk_B {d : DataW H} {l : List Bd} (h : isB d l) : l.length ≤ Rows.uptoBulk d := by
  rcases h with ⟨_, rfl⟩ | ⟨r, rfl⟩
  · simp
  · have := bulk_list (H := H) dB (fun x => by simp [dB, Rows.uptoBulk]) l
    simp only [Rows.uptoBulk]
    omega
theorem bulk_A {d : DataW H} {t : Tm} {nm : ByteArray} {l : List Tm} (h : isA d t nm l) : l.length ≤ Rows.uptoBulk d := by
  obtain ⟨dl, rfl, h⟩ := h
  have h2 : l.length ≤ Rows.uptoBulk dl := by
    rcases h with ⟨_, rfl⟩ | ⟨r, rfl⟩
    · simp
    · have := bulk_list (H := H) dT (fun x => by simp [dT, Rows.uptoBulk]) l
      simp only [Rows.uptoBulk]
      omega
  simp only [Rows.uptoBulk, Rows.uptoBulkAll]
  omega
end
end Go.Proofs.YtnomgmlfagiffaaDoor.T
/- What the rows' lists of package variables say. -/
set_option linter.unusedVariables false
namespace Go.Proofs.YtnomgmlfagiffaaDoor.T
open Go.ChangeShapes Go.WideShapes Go.ChangeAt Go.RowKit Go.Deep Go.Proofs.YtnomgmlfagiffaaDoorW.PrintWords
theorem gNone : Tryd.prog.globalNamed "hearsay/term.none" = some 2 := by kernel_rfl
theorem gNoneT : (Tryd.prog.globals[2]?).map (·.type) = some 23 := by kernel_rfl
end Go.Proofs.YtnomgmlfagiffaaDoor.T
/- What the rows' lists of package variables say, of three variables. -/
set_option linter.unusedVariables false
namespace Go.Proofs.YtnomgmlfagiffaaDoor.T
open Go.ChangeShapes Go.WideShapes Go.ChangeAt Go.RowKit Go.Deep Go.Proofs.YtnomgmlfagiffaaDoorW.PrintWords
theorem laid_at {W : World} : ∀ {l : List (String × DataW Unit)} {ps : List MemPlace}, DataW.LaidVars Tryd.prog W l ps → ∀ {n : String} {d : DataW Unit}, (n, d) ∈ l →
    ∃ g t cs fuel p, Tryd.prog.globalNamed n = some g ∧ (Tryd.prog.globals[g]?).map (·.type) = some t ∧ W.var? Tryd.prog n = some cs ∧ DataW.trod (fun _ => ()) Tryd.prog W 0 (fun _ => true) false fuel t cs.toList = some (d, p)
  | [], _, _, _, _, h => by simp at h
  | (n0, d0) :: r, ps, hl, n, d, h => by
    obtain ⟨g, t, cs, fuel, p, q, hg, ht, hv, hd, hr, _⟩ := hl
    rcases List.mem_cons.1 h with h | h
    · injection h with h1 h2
      subst h1 h2
      exact ⟨g, t, cs, fuel, p, hg, ht, hv, hd⟩
    · exact laid_at hr h
theorem ba_of_list {s : ByteArray} {l : List UInt8} (h : l = s.data.toList) : s = ⟨⟨l⟩⟩ := by
  cases s with
  | mk d => simp only at h; rw [h]
theorem none_at {W : World} {l : List (String × DataW Unit)} {ps : List MemPlace} (hl : DataW.LaidVars Tryd.prog W l ps) (hm : ("hearsay/term.none", Rows.laid_hearsay_term_none) ∈ l) : Laid2 W := by
  obtain ⟨g, t, cs, fuel, p, hg, ht, hvar, hd⟩ := laid_at hl hm
  obtain rfl := Option.some.inj (gNone.symm.trans hg)
  obtain rfl := Option.some.inj (gNoneT.symm.trans ht)
  obtain ⟨t0, e, hx, _⟩ := open_T hd
  injection hx with h1 _
  have h2 : Rows.laid_hearsay_term_none = dT (H := Unit) ⟨0, 0, ⟨#[]⟩⟩ := rfl
  rw [h2] at h1
  simp only [dT, DataW.agg.injEq, List.cons.injEq, DataW.lit.injEq, Lit.int.injEq, Lit.string.injEq, and_true, true_and] at h1
  obtain ⟨e0, e1, e2⟩ := h1
  have c := fun i => World.var?_cell (cs := cs) gNone hvar i
  have e4 : cs = #[.int .i64 0, .int .i64 0, .string ⟨#[]⟩] := Array.toList_inj.1 (by rw [e, ← e0, ← e1, ba_of_list e2])
  subst e4
  exact ⟨c 0, c 1, c 2⟩
end Go.Proofs.YtnomgmlfagiffaaDoor.T
/- The walk of term.sorted. -/
set_option linter.unusedVariables false
namespace Go.Proofs.YtnomgmlfagiffaaDoor.T
open Go.RowKit Go.Maps Go.Proofs.YtnomgmlfagiffaaDoorW.PrintWords Go.Proofs.YtnomgmlfagiffaaDoorW.PrintLast
theorem R_shape {w : World} {base : Nat} {ok : Nat → Prop} {v : Value} {l : List Bd} (h : Kd.R k44 44 w base ok v l) {g : Nat} (hg : v.ownBlock = some g) : ∃ c, v = .slice (some ⟨g, 0, none⟩) l.length c ∧ base ≤ g := by
  obtain ⟨_, inner, ho, _⟩ := h
  rcases ho.2 with ⟨rfl, _⟩ | ⟨g', cap, cur, rfl, hb, _⟩
  · cases hg
  · cases hg
    exact ⟨cap, rfl, hb⟩
set_option maxHeartbeats 4000000 in
set_option maxRecDepth 100000 in
theorem term_sorted.calls (b n : Nat) (m : List Bd) (w : World) (hm : w.ownsMap Tryd.prog 3 RT b n (mapD m)) (hr : Rising m) (hlen : m.length < 3298534883328) :
    Calls Tryd.prog 51 #[.map (some b)] w fun e w' => ∃ v, e = .returned v ∧ Kd.R k44 44 w' w.heap.size (fun _ => True) v m ∧ Below w.heap.size w w' := by
  obtain ⟨i0, hi, hz0, hz1, hz2⟩ := info_parts info44
  have hsz : Maps.size (mapD m) = m.length := by simp [mapD, Maps.size]
  have hml : m.length ≤ maxLen := by simp [maxLen]; omega
  have hu1 := Tryd.underlying44
  have hu2 := Tryd.underlying23
  have hlt := hm.lt
  go_enter Tryd.func51, Tryd.ntmps51
  go_wp2_with (first
    | (at_len; refine wpList_len_own _ rfl _ 70 rfl 3 23 Tryd.underlying70 _ b n _ rfl hm ?_; rw [hsz])
    | (at_make; refine wpList_make_own _ rfl _ _ 28 rfl w.heap.size 44 i0 _ 4 Tryd.underlying28 hi hz0 hz1 .i64 .i64 _ m.length rfl rfl rfl (by rw [hz2]; omega) hml (Nat.le_refl _) ?_; intro w1 hown1 hg1)
    | (at_range; refine wpList_range_own _ rfl _ 70 rfl 3 23 lawI Tryd.underlying70 _ b n _ rfl (hm.kept hg1 (by simp)) ?_; intro w0 hrg0 hg0 hs0)
    | go_in)
  go_frame
  have hb1 : Below w.heap.size w w1 := (Below.refl _ w).grown hg1 (Nat.le_refl _) (fun _ h => by cases h)
  have hb0 : Below w.heap.size w w0 := hb1.grown hg0 hb1.size (fun _ h => by cases h)
  have hR1 : Kd.R k44 44 w0 w.heap.size (fun k => k ≠ w1.heap.size) (.slice (some ⟨w.heap.size, 0, none⟩) 0 m.length) ([] : List Bd) := by
    have h1 : Kd.R k44 44 w1 w.heap.size (fun k => k ≠ w1.heap.size) (.slice (some ⟨w.heap.size, 0, none⟩) 0 m.length) ([] : List Bd) :=
      ⟨fun k hk => by have := hown1.lt k hk; omega, [], hown1, ⟨rfl, fun j p h => by simp at h⟩⟩
    exact Kd.R_grown h1 hg0 (fun k hk => by simp)
  have HR1 := Aside0.mk hR1
  have HB0 := Aside0.mk hb0
  have hw01 : w.heap.size ≤ w1.heap.size := hb1.size
  have HW01 := Aside0.mk hw01
  clear hR1 hb0 hb1 hown1 hg1 hg0 hw01
  go_loopw [3] (fun v3 wr => ∃ (left : Lit → Bool) (cnt : Nat) (l : List Bd), wr.ranges Tryd.prog 3 RT b w1.heap.size n (mapD m) left cnt ∧ Aside0 (Kd.R k44 44 wr w.heap.size (fun k => k ≠ w1.heap.size) v3 l) ∧ Aside0 (Got m left l) ∧ Aside0 (∃ g, v3.ownBlock = some g) ∧ Aside0 (Below w.heap.size w wr))
    (fun _ wr => wr.rangeLeft b w1.heap.size)
  case atStart => exact ⟨_, _, [], hrg0, HR1, ⟨Got.start m⟩, ⟨⟨_, rfl⟩⟩, HB0⟩
  case round =>
    obtain ⟨left, cnt, l, hrg, HR, HG, HV, HB⟩ := hrel
    clear hrg0
    go_wp2_with (first
      | (at_next; refine wpList_next_ranges _ rfl _ rfl 3 lawI RT (Value.int .i64) encT (fun key kl hkey => by obtain ⟨x, rfl, _⟩ := Maps.keyOf_int_inv Tryd.underlying3 hkey; exact ⟨x, rfl⟩) (fun v y hv => by obtain ⟨t, rfl, _⟩ := RT_inv hv; exact ⟨t, rfl⟩) b w1.heap.size n _ _ _ rfl hrg ?_ ?_)
      | go_in)
    · intro hc0 hl0
      have hp := HG.out.done hl0
      obtain ⟨g, hg⟩ := HV.out
      obtain ⟨c, rfl, hgb⟩ := R_shape HR.out hg
      have hsort := sortB_calls g c l wr w.heap.size (Kd.R_mono HR.out (fun _ _ => trivial)) (by rw [hp.length_eq]; omega)
      clear hrg
      go_wp2_with (go_at_call 82; refine hsort.mono ?_; rintro e w2 ⟨rfl, hg2, l', hl', hs', hR'⟩)
      go_ret
      obtain rfl := sorted_unique hr hp hl' (hs'.imp fun {a b} h => by first | exact h | (intro h2; omega))
      exact ⟨_, rfl, hR', HB.out.grown hg2 HB.out.size (fun k hk => by cases hk; exact hgb)⟩
    · intro x c kl yd yp w2 cnt1 hkey hlx hy hat hrg1 hlt1 hg2 hs2 hen
      obtain ⟨x', hx', hkl, hwx⟩ := Maps.keyOf_int_inv Tryd.underlying3 hkey
      cases hx'
      subst hkl
      have hin : (⟨x, c⟩ : Bd) ∈ m := by
        have h1 : yd = .held c := by rw [RT_enc] at hy; injection hy with h; injection h with h _; exact h.symm
        have h2 := hat .nil
        rw [atKey_mapD, h1] at h2
        cases h3 : getM m x with
        | none => rw [h3] at h2; cases h2
        | some t =>
          rw [h3] at h2
          injection h2 with h2
          subst h2
          exact getM_mem h3
      have HG2 : Aside0 (Got m (fun z => left z && !z.sameKey (.int .i64 x)) (l ++ [⟨x, c⟩])) := ⟨HG.out.step hr hlx hin⟩
      have HLN : Aside0 (l.length ≤ m.length) := ⟨HG.out.len⟩
      have HRG := Aside0.mk hrg
      have hne : ∀ k, k ≠ w1.heap.size → some k ≠ some w1.heap.size := fun k hk e => hk (by injection e)
      have HR2 : Aside0 (Kd.R k44 44 w2 w.heap.size (fun k => k ≠ w1.heap.size) u3 l) := ⟨Kd.R_grown HR.out hg2 hne⟩
      have hw1 : w.heap.size ≤ w1.heap.size := HW01.out
      have HB2 : Aside0 (Below w.heap.size w w2) := ⟨HB.out.grown hg2 HB.out.size (fun k hk => by cases hk; exact hw1)⟩
      have HRG1 := Aside0.mk hrg1
      have hM0 := hrg.left_eq
      clear hrg hrg1 HR HB HG hg2 hat hy hlx hne hin hkey hwx
      have HS2 := Aside0.mk hs2
      clear hs2
      simp only [encT] at hen
      go_wp2_with (first
        | ((with_reducible refine gate_builtin (b := .append) (xs := #[.tmp 16, .tmp 20]) rfl ?_); at_builtin; go_loud (refine Kd.R_append k44 (w0 := w) w.heap.size rfl (.tmp 16) (.tmp 20) 28 44 (.agg #[.int .i64 0, .int .i64 0, .int .i64 0, .string ⟨#[]⟩]) 40 rfl Tryd.underlying28 info44 rfl (by decide) (by omega) u3 l (⟨x, c⟩ : Bd) [.int .i64 x, .int .i64 c.f0, .int .i64 c.f1, .string c.f2] (fun k => k ≠ w1.heap.size) (fun _ => False) rfl ?aX ?aP (fun _ hk => hk.elim) ?aF ?aO ?aB ?aS ?aL ?_; (case aX => first | rfl | (go_simp; done) | (go_simp; rfl)); (case aP => exact k44_mkM _ _ _ (⟨x, c⟩ : Bd)); (case aF => intro k hk; have h1 := HRG1.out.lt; simp at hk; omega); (case aO => exact Kd.R_below HR2.out (below_alloc (Below.refl _ _) _)); (case aB => exact below_alloc HB2.out _); (case aS => exact (below_alloc HB2.out _).size); (case aL => have := HLN.out; omega); intro v1 w3 hR3 hb3 hg3 hat3; have HR3 := Aside0.mk hR3; have HB3 := Aside0.mk hb3; have HG3 := Aside0.mk hg3; have HA3 := Aside0.mk hat3; clear hR3 hb3 hg3 hat3))
        | go_in)
      have hrg3 : w3.ranges Tryd.prog 3 RT b w1.heap.size n (mapD m) (fun z => left z && !z.sameKey (.int .i64 x)) cnt1 := by
        obtain ⟨g, hg⟩ := HV.out
        refine (HRG1.out.alloc _).kept HG3.out ?_ ?_
        · have hgb : w.heap.size ≤ g := by obtain ⟨c', _, h⟩ := R_shape HR2.out hg; exact h
          rw [hg]; intro e; injection e with e; omega
        · rw [hg]; intro e; injection e with e; exact HR2.out.1 g hg e.symm
      have hv3 : ∃ g, v1.ownBlock = some g := by
        rcases HA3.out with h | ⟨b', h, _⟩
        · obtain ⟨g, hg⟩ := HV.out; exact ⟨g, h.trans hg⟩
        · exact ⟨b', h⟩
      go_roundw
      case rel => exact ⟨_, cnt1, _, hrg3, HR3, HG2, ⟨hv3⟩, HB3⟩
      case measure => rw [hrg3.left_eq, hM0]; exact hlt1
end Go.Proofs.YtnomgmlfagiffaaDoor.T
