/- GLay; GSort; GMaps; Frame; FrameB; LaidB; T14; T150: texts of this claim, laid together. -/
import Derived.Shelf.SlLaysF0
import Derived.Shelf.SlGeneric
import Derived.Ground.SlsfProg
import Derived.Test.YtnomgmlfagiffaaDoorProg
import Derived.Test.YtnomgmlfagiffaaDoorM0Ud
import Derived.Shelf.SlSortCmp.WholeK
import Derived.Maps.RangeWalk
import Derived.Maps.OwnSet
import Derived.Maps.OwnOps
import Derived.Maps.Ext
import Derived.Test.YtnomgmlfagiffaaDoorRows
import Derived.Test.YtnomgmlfagiffaaDoorCards
import Derived.Test.YtnomgmlfagiffaaDoorTie
import Derived.WalkKit
import Derived.ProofKit
import Derived.OpenShut
import Derived.Carry
import Derived.Deep.Strs
import Derived.Deep.DeepHandedRow
import Derived.Lib.LaidTab
import Derived.Deep.Slices
/-
  DERIVED: THE SHELF's CONTRACTS AT THIS DUMP, IN PLAIN WORDS (tools/lay-plain.mjs out of 'YtnomgmlfagiffaaDoorGLay.lean', which tools/lay-shelf.mjs wrote): THE SAME DECLARATIONS UNDER THE SAME NAMES: 'import', 'namespace', 'open', 'def', 'theorem' AND NOTHING ELSE: no command of the shelf's: FOR A HAND-IN. Each laying: the table of numbers ('.._ren') and one theorem, a field a fact of the dump's own or the kernel's comparison; each contract: ONE APPLICATION.
-/
namespace Go.Proofs
open Go.Shelf
def Tryd.pdqBd_ren : Go.Shelf.Ren := ⟨fun | 14 => 89 | 20 => 92 | 21 => 93 | 22 => 94 | 23 => 95 | 24 => 96 | 25 => 97 | 26 => 98 | 27 => 99 | 46 => 102 | 47 => 103 | 48 => 104 | 49 => 105 | 50 => 106 | 15 => 90 | 57 => 107 | 28 => 100 | 29 => 101 | n => n, fun | 24 => 44 | 22 => 27 | 3 => 3 | 25 => 91 | 4 => 4 | 0 => 0 | 46 => 101 | 45 => 100 | 50 => 105 | 66 => 111 | 39 => 98 | 55 => 110 | 70 => 115 | 76 => 117 | 77 => 118 | 53 => 108 | 5 => 5 | 9 => 9 | n => n, fun | n => n⟩
theorem Tryd.pdqBd : Go.Proofs.SlLaysF0.n14 Tryd.prog Tryd.pdqBd_ren := {
  mixed := by kernel_rfl
  f14 := ⟨Tryd.f89.name, by decide, Tryd.func89.trans (congrArg some (by kernel_rfl))⟩
  f15 := Tryd.func90.trans (congrArg some (by kernel_rfl))
  f20 := ⟨Tryd.f92.name, by decide, Tryd.func92.trans (congrArg some (by kernel_rfl))⟩
  f21 := ⟨Tryd.f93.name, by decide, Tryd.func93.trans (congrArg some (by kernel_rfl))⟩
  f22 := ⟨Tryd.f94.name, by decide, Tryd.func94.trans (congrArg some (by kernel_rfl))⟩
  f23 := ⟨Tryd.f95.name, by decide, Tryd.func95.trans (congrArg some (by kernel_rfl))⟩
  f24 := ⟨Tryd.f96.name, by decide, Tryd.func96.trans (congrArg some (by kernel_rfl))⟩
  f25 := ⟨Tryd.f97.name, by decide, Tryd.func97.trans (congrArg some (by kernel_rfl))⟩
  f26 := ⟨Tryd.f98.name, by decide, Tryd.func98.trans (congrArg some (by kernel_rfl))⟩
  f27 := ⟨Tryd.f99.name, by decide, Tryd.func99.trans (congrArg some (by kernel_rfl))⟩
  f28 := Tryd.func100.trans (congrArg some (by kernel_rfl))
  f29 := Tryd.func101.trans (congrArg some (by kernel_rfl))
  f46 := ⟨Tryd.f102.name, by decide, Tryd.func102.trans (congrArg some (by kernel_rfl))⟩
  f47 := Tryd.func103.trans (congrArg some (by kernel_rfl))
  f48 := Tryd.func104.trans (congrArg some (by kernel_rfl))
  f49 := ⟨Tryd.f105.name, by decide, Tryd.func105.trans (congrArg some (by kernel_rfl))⟩
  f50 := ⟨Tryd.f106.name, by decide, Tryd.func106.trans (congrArg some (by kernel_rfl))⟩
  f57 := ⟨Tryd.f107.name, by decide, Tryd.func107.trans (congrArg some (by kernel_rfl))⟩
  t0 := Tryd.underlying0
  a0 := Tryd.isAgg0
  z0 := Tryd.sizeOf0
  v0 := Tryd.zeroValue0
  t3 := Tryd.underlying3
  a3 := Tryd.isAgg3
  z3 := Tryd.sizeOf3
  v3 := Tryd.zeroValue3
  t4 := Tryd.underlying4
  a4 := Tryd.isAgg4
  z4 := Tryd.sizeOf4
  v4 := Tryd.zeroValue4
  t5 := Tryd.underlying5
  a5 := Tryd.isAgg5
  z5 := Tryd.sizeOf5
  v5 := Tryd.zeroValue5
  t9 := Tryd.underlying9
  a9 := Tryd.isAgg9
  z9 := Tryd.sizeOf9
  v9 := Tryd.zeroValue9
  t22 := Tryd.underlying27
  a22 := Tryd.isAgg27
  z22 := Tryd.sizeOf27
  v22 := Tryd.zeroValue27
  t25 := Tryd.underlying91
  a25 := Tryd.isAgg91
  z25 := Tryd.sizeOf91
  v25 := Tryd.zeroValue91
  t39 := Tryd.underlying98
  a39 := Tryd.isAgg98
  z39 := Tryd.sizeOf98
  v39 := Tryd.zeroValue98
  t45 := Tryd.underlying100
  a45 := Tryd.isAgg100
  z45 := Tryd.sizeOf100
  v45 := Tryd.zeroValue100
  t46 := Tryd.underlying101
  a46 := Tryd.isAgg101
  z46 := Tryd.sizeOf101
  v46 := Tryd.zeroValue101
  t50 := Tryd.underlying105
  a50 := Tryd.isAgg105
  z50 := Tryd.sizeOf105
  v50 := Tryd.zeroValue105
  t53 := Tryd.underlying108
  a53 := Tryd.isAgg108
  z53 := Tryd.sizeOf108
  v53 := Tryd.zeroValue108
  t55 := Tryd.underlying110
  a55 := Tryd.isAgg110
  z55 := Tryd.sizeOf110
  v55 := Tryd.zeroValue110
  t66 := Tryd.underlying111
  a66 := Tryd.isAgg111
  z66 := Tryd.sizeOf111
  v66 := Tryd.zeroValue111
  t70 := Tryd.underlying115
  a70 := Tryd.isAgg115
  z70 := Tryd.sizeOf115
  v70 := Tryd.zeroValue115
  t76 := Tryd.underlying117
  a76 := Tryd.isAgg117
  z76 := Tryd.sizeOf117
  v76 := Tryd.zeroValue117
  t77 := Tryd.underlying118
  a77 := Tryd.isAgg118
  z77 := Tryd.sizeOf118
  v77 := Tryd.zeroValue118 }
end Go.Proofs
/- slices.SortFunc at Binding, ordered by Var: the row holds a permutation, rising. -/
set_option linter.unusedVariables false
namespace Go.Proofs.YtnomgmlfagiffaaDoor.T
open Go.RowKit Go.Shelf Go.Lib Go.Sort Go.Proofs.YtnomgmlfagiffaaDoorW.PrintWords
instance : Inhabited Bd := ⟨z44⟩
def encB (b : Bd) : List Value := [.int .i64 b.f0, .int .i64 b.f1.f0, .int .i64 b.f1.f1, .string b.f1.f2]
theorem encB_len (b : Bd) : (encB b).length = 4 := rfl
theorem encB_one (b : Bd) : ∀ v ∈ encB b, v.oneCell' = true := by
  intro v hv; simp [encB] at hv; rcases hv with rfl | rfl | rfl | rfl <;> rfl
theorem M_enc {w : World} {base : Nat} {ok : Nat → Prop} {x : Bd} {cs : List Value} : k44.M w base ok x cs ↔ cs = encB x :=
  ⟨fun h => k44_openM h, fun h => h ▸ k44_mkM w base ok x⟩
theorem reps_flat {R : Bd → List Value → Prop} (hR : ∀ p c, R p c → c = encB p) {ps : List Bd} {cs : List Value} (h : Reps R 4 ps cs) : cs = (flatK encB 4 ps.toArray).toList := by
  have hl : cs.length = (flatK encB 4 ps.toArray).toList.length := by rw [h.1]; simp
  refine List.ext_getElem hl fun t h1 h2 => ?_
  have ht : t < ps.length * 4 := by rw [← h.1]; exact h1
  have hj : t / 4 < ps.length := by omega
  have h3 := hR _ _ (h.2 (t / 4) _ (List.getElem?_eq_getElem hj))
  have h4 : cs[t] = (encB ps[t / 4])[t % 4]'(by rw [encB_len]; omega) := by
    have : ((cs.drop (t / 4 * 4)).take 4)[t % 4]? = (encB ps[t / 4])[t % 4]? := by rw [h3]
    rw [List.getElem?_take_of_lt (by omega), List.getElem?_drop, show t / 4 * 4 + t % 4 = t by omega, List.getElem?_eq_getElem h1, List.getElem?_eq_getElem (by rw [encB_len]; omega)] at this
    exact Option.some.inj this
  have h5 := get_flatK encB 4 ps.toArray t (by simpa using ht)
  rw [getElem!_pos (flatK encB 4 ps.toArray) t (by simpa using ht), getElem!_pos ps.toArray (t / 4) (by simpa using hj)] at h5
  refine h4.trans (Eq.trans ?_ (Eq.trans h5.symm (Array.getElem_toList (xs := flatK encB 4 ps.toArray) (by simpa using ht)).symm))
  simp only [List.getElem_toArray]
  rw [getElem!_pos (encB ps[t / 4]) (t % 4) (by rw [encB_len]; omega)]
theorem flat_reps {R : Bd → List Value → Prop} (hR : ∀ p, R p (encB p)) (d : Array Bd) : Reps R 4 d.toList (flatK encB 4 d).toList := by
  refine ⟨by simp, fun j p hj => ?_⟩
  obtain ⟨hl, rfl⟩ := List.getElem?_eq_some_iff.1 hj
  have hl' : j < d.size := by simpa using hl
  have : ((flatK encB 4 d).toList.drop (j * 4)).take 4 = encB d.toList[j] := by
    refine List.ext_getElem (by simp [encB_len]; omega) fun t h1 h2 => ?_
    have ht : t < 4 := by rw [encB_len] at h2; exact h2
    rw [List.getElem_take, List.getElem_drop, Array.getElem_toList, ← getElem!_pos, get_flatK encB 4 d _ (by omega), show (j * 4 + t) / 4 = j by omega, show (j * 4 + t) % 4 = t by omega, getElem!_pos d j hl', getElem!_pos _ t (by rw [encB_len]; exact ht)]
    rfl
  rw [this]
  exact hR _
def cfB (x y : Bd) : Int := if x.f0 < y.f0 then -1 else if x.f0 > y.f0 then 1 else 0
theorem cmp_f (x y : Int) : cmp_Compare_int.f x y = some (if x < y then -1 else if x > y then 1 else 0) := by
  unfold cmp_Compare_int.f cmp_isNaN_int.f
  simp
  split
  · rfl
  · split <;> rfl
theorem swoB : SWO (ltOf cfB) := by
  have e : ∀ x y, ltOf cfB x y = decide (x.f0 < y.f0) := by
    intro x y
    unfold ltOf cfB
    split
    · simp_all
    · split <;> simp_all
  refine ⟨fun x => ?_, fun x y z => ?_, fun x y z => ?_⟩ <;> simp only [e, decide_eq_true_eq, decide_eq_false_iff_not] <;> omega
set_option maxHeartbeats 2000000 in
set_option maxRecDepth 100000 in
/-- The closure that compares two binds by Var: it lays two blocks. -/
theorem byVar_calls (x y : Bd) (W : World) : Calls Tryd.prog 83 #[.agg (encB x).toArray, .agg (encB y).toArray] W fun e w' => e = .returned (.int .i64 (cfB x y)) ∧ ∃ q os', w' = grow (W.drewN q) os' := by
  have hcon : ∀ W', Calls Tryd.prog 76 #[.int .i64 x.f0, .int .i64 y.f0] W' fun e w' => e = .returned (.int .i64 (cfB x y)) ∧ Drawn0 W' w' := fun W' => cmp_Compare_int.calls x.f0 y.f0 _ W' (cmp_f _ _)
  generalize cfB x y = r at hcon ⊢
  show Calls Tryd.prog 83 #[.agg #[.int .i64 x.f0, .int .i64 x.f1.f0, .int .i64 x.f1.f1, .string x.f1.f2], .agg #[.int .i64 y.f0, .int .i64 y.f1.f0, .int .i64 y.f1.f1, .string y.f1.f2]] W _
  have hu := Tryd.underlying44
  go_enter Tryd.func83, Tryd.ntmps83
  go_wp2_with (go_at_call 76; refine (hcon _).mono ?_; rintro e w' ⟨rfl, hd⟩; obtain ⟨n, rfl⟩ := hd)
  go_ret
  exact ⟨rfl, _, _, by rw [alloc_eq_grow, alloc_eq_grow, grow_grow]; rfl⟩
theorem cmpLaysB (blk off size : Nat) (w : World) : CmpLays Tryd.prog 83 #[] encB 4 cfB blk off size w :=
  fun _ _ _ _ x y => byVar_calls x y _
theorem heap_sortedB {w : World} {g n : Nat} {os : Array Obj} {cur : Array Value} {e : TypeId} {fr : Nat × Nat} (d : Array Bd) (hb : w.heap[g]? = some (.cells cur e fr)) :
    (sortWorldK encB 4 w g 0 n d os).heap[g]? = some (.cells (putCells id 0 (flatK encB 4 d) cur) e fr) := by
  have hg : g < w.heap.size := (Array.getElem?_eq_some_iff.1 hb).1
  unfold sortWorldK putRowK
  rw [heap_grow_old _ _ (by simpa using hg)]
  simp [putRow, mapBlock, Sort.ahead, Array.getElem?_modify, hb, onCells]
theorem grownBy_sortedB {w : World} {g n : Nat} {os : Array Obj} (d : Array Bd) : w.grownBy (sortWorldK encB 4 w g 0 n d os) (some g) := by
  unfold sortWorldK putRowK
  refine ⟨rfl, rfl, rfl, by simp, fun k hk hne => ?_⟩
  rw [heap_grow_old _ _ (by simpa using hk)]
  have : g ≠ k := fun e => hne (by rw [e])
  simp [putRow, mapBlock, Sort.ahead, Array.getElem?_modify, this]
theorem take_putCellsB (cur : Array Value) (F : Array Value) (h : F.size ≤ cur.size) : (putCells id 0 F cur).toList.take F.size = F.toList := by
  apply List.ext_getElem?
  intro j
  by_cases hj : j < F.size
  · rw [List.getElem?_take_of_lt hj, Array.getElem?_toList]
    simp [putCells, hj, show j < cur.size by omega]
  · rw [List.getElem?_take_eq_none (by omega), List.getElem?_eq_none (by simp; omega)]
set_option maxHeartbeats 2000000 in
set_option maxRecDepth 100000 in
/-- slices.SortFunc at a Binding of the call's own. -/
theorem sortB_calls (g cap : Nat) (l : List Bd) (w : World) (base : Nat) (hR : Kd.R k44 44 w base (fun _ => True) (.slice (some ⟨g, 0, none⟩) l.length cap) l) (hlen : l.length < 4611686018427387904) :
    Calls Tryd.prog 82 #[.slice (some ⟨g, 0, none⟩) l.length cap, .func (.func 83) #[] #[]] w fun e w' =>
      e = .returned (.tuple #[]) ∧ w.grownBy w' (some g) ∧ ∃ l' : List Bd, l'.Perm l ∧ l'.Pairwise (fun a b => ¬ b.f0 < a.f0) ∧ Kd.R k44 44 w' base (fun _ => True) (.slice (some ⟨g, 0, none⟩) l.length cap) l' := by
  obtain ⟨_, inner, hown, hreps⟩ := hR
  have hin := reps_flat (fun p c h => M_enc.1 h) hreps
  change w.ownsRow base 44 4 _ _ _ at hown
  obtain ⟨hil, hown2⟩ := hown
  rcases hown2 with ⟨h0, _⟩ | ⟨g', cap', cur, hv, hbase, hb, hnc, hcm, hcs, htk⟩
  · cases h0
  cases hv
  have hblk : g < w.heap.size := (Array.getElem?_eq_some_iff.1 hb).1
  have hH : HoldsK encB 4 w g 0 l.toArray := by
    intro j hj
    have hj4 : j < l.length * 4 := by simpa using hj
    refine ⟨?_, by simp [World.frozen?, hb]⟩
    have h1 : (cur.toList.take (l.length * 4))[j]? = some ((flatK encB 4 l.toArray)[j]!) := by
      rw [htk, hin, getElem!_pos _ j hj, Array.getElem?_toList]
      exact Array.getElem?_eq_getElem hj
    rw [List.getElem?_take_of_lt hj4, Array.getElem?_toList] at h1
    simp only [World.cell?, hb, Nat.zero_add]
    simp only [Option.isSome_none, Bool.false_eq_true, if_false]
    exact h1
  have eg : ∀ args w, (callFunc 83 args).run Tryd.prog w = .ok (.enter 83 args) w := enters_of Tryd.func83 (by kernel_rfl) rfl
  have L := Tryd.pdqBd
  have hsz : l.toArray.size < 4611686018427387904 := by simpa using hlen
  have hlim : Lib.bitLen l.toArray.size < 4611686018427387904 := Nat.lt_of_le_of_lt (Lib.bitLen_le l.toArray.size 62 (by omega) (by omega)) (by omega)
  have hp := AnyQ.pdqsortCmpFunc_all (P := Tryd.prog) (ρ := Tryd.pdqBd_ren) L 4 Tryd.isAgg44 Tryd.sizeOf44 encB cfB 83 #[] swoB g 0 cap l.toArray w eg (cmpLaysB g 0 _ w) ⟨encB_len, encB_one, hH, hblk⟩ (l.toArray.size + 1) 0 l.toArray.size (Lib.bitLen l.toArray.size) l.toArray w (by omega) rfl (SWK.start hH) (Nat.zero_le _) (Nat.le_refl _) hsz hlim (Or.inl rfl)
  have hl : Calls Tryd.prog 90 #[.int .u64 (l.toArray.size : Int)] w fun e w' => e = .returned (.int .i64 (Lib.bitLen l.toArray.size : Nat)) ∧ w' = w := by
    have h := Any.bits_Len (SlLaysF0.n15.bits (P := Tryd.prog) (ρ := Tryd.pdqBd_ren) { L with }) (l.toArray.size : Int) w (by omega) (by omega)
    rwa [Int.toNat_natCast] at h
  have wr : IntKind.u64.wrap (l.toArray.size : Int) = l.toArray.size := by simp [IntKind.wrap, IntKind.bits, IntKind.signed]; simp at hsz; omega
  have hs := pdq_sorts (ltOf cfB) swoB l.toArray 0 l.toArray.size (Lib.bitLen l.toArray.size) true true (Nat.zero_le _) (Nat.le_refl _) (Or.inl rfl)
  generalize pdq (ltOf cfB) l.toArray 0 l.toArray.size (Lib.bitLen l.toArray.size) true true = d' at hp hs
  have hq : ∀ n os, w.grownBy (sortWorldK encB 4 w g 0 n d' os) (some g) ∧ ∃ l' : List Bd, l'.Perm l ∧ l'.Pairwise (fun a b => ¬ b.f0 < a.f0) ∧ Kd.R k44 44 (sortWorldK encB 4 w g 0 n d' os) base (fun _ => True) (.slice (some ⟨g, 0, none⟩) l.length cap) l' := by
    intro n os
    obtain ⟨⟨p1, p2, p3⟩, p4⟩ := hs
    have hl' : d'.toList.length = l.length := by simpa using p1
    refine ⟨grownBy_sortedB d', d'.toList, ?_, ?_, ?_⟩
    · have e1 : d'.toList.take l.length = d'.toList := by rw [← hl']; exact List.take_length
      simpa [e1] using p3
    · rw [List.pairwise_iff_getElem]
      intro i j hi hj hij
      have h4 := p4 i j (Nat.zero_le _) hij (by simp only [Array.length_toList] at hj; omega)
      simp only [Array.length_toList] at hi hj
      rw [getElem!_pos d' i hi, getElem!_pos d' j hj] at h4
      simp only [Array.getElem_toList]
      unfold ltOf cfB at h4
      intro hlt
      rw [if_pos hlt] at h4
      simp at h4
    · have hf : (flatK encB 4 d').size = l.length * 4 := by rw [size_flatK, ← hl']; simp
      have ho : (sortWorldK encB 4 w g 0 n d' os).ownsRow base 44 4 (.slice (some ⟨g, 0, none⟩) l.length cap) d'.toList.length (flatK encB 4 d').toList := ⟨by simp [hf, hl'], .inr ⟨g, cap, _, by rw [hl'], hbase, heap_sortedB d' hb, by rw [hl']; exact hnc, hcm, by simp [putCells, hcs], by rw [hl', ← hf]; exact take_putCellsB cur _ (by rw [hf, hcs]; exact Nat.mul_le_mul_right 4 hnc)⟩⟩
      exact ⟨fun _ _ => trivial, (flatK encB 4 d').toList, ho, flat_reps (fun p => M_enc.2 rfl) d'⟩
  simp only [List.size_toArray] at hp hl wr
  clear hs hH hreps hin htk hcs hb hil hlim hsz
  go_enter Tryd.func82, Tryd.ntmps82
  go_wp2_with (first | (go_at_call 90; refine hl.mono ?_; rintro e w' ⟨rfl, rfl⟩) | (go_at_call 89; refine hp.mono ?_; rintro e w' ⟨rfl, n, os, rfl⟩))
  go_end0
  exact ⟨rfl, (hq n os).1, (hq n os).2⟩
end Go.Proofs.YtnomgmlfagiffaaDoor.T
/- Maps from int to Term, as lists in rising order; the walk of term.sorted. -/
set_option linter.unusedVariables false
namespace Go.Proofs.YtnomgmlfagiffaaDoor.T
open Go.RowKit Go.Maps Go.Proofs.YtnomgmlfagiffaaDoorW.PrintWords Go.Proofs.YtnomgmlfagiffaaDoorW.PrintLast
theorem lawI : Keyed Tryd.prog 3 := int_keyed Tryd.underlying3
def encT (t : Tm) : Value := .agg #[.int .i64 t.f0, .int .i64 t.f1, .string t.f2]
def decT : Value → Option Tm
  | .agg xs => match xs.toList with | [.int .i64 a, .int .i64 b, .string s] => some ⟨a, b, s⟩ | _ => none
  | _ => none
theorem decT_inv {v : Value} {t : Tm} (h : decT v = some t) : v = encT t := by
  cases v with
  | agg xs =>
    obtain ⟨l⟩ := xs
    simp only [decT] at h
    split at h
    · have := Option.some.inj h
      subst this
      rfl
    · cases h
  | _ => simp [decT] at h
def RT (v : Value) : Option (DataW Tm × List MemPlace) := (decT v).map fun t => (.held t, [])
theorem RT_enc (t : Tm) : RT (encT t) = some (.held t, []) := rfl
theorem RT_inv {v : Value} {y : DataW Tm × List MemPlace} (h : RT v = some y) : ∃ t, v = encT t ∧ y = (.held t, []) := by
  unfold RT at h
  obtain ⟨t, ht, rfl⟩ := Option.map_eq_some_iff.1 h
  exact ⟨t, decT_inv ht, rfl⟩
/-- The map's datum. -/
def entB (b : Bd) : Lit × DataW Tm := (.int .i64 b.f0, .held b.f1)
def mapD (m : List Bd) : DataW Tm := .map (m.map entB)
/-- Strictly rising by Var. -/
def Rising (m : List Bd) : Prop := m.Pairwise fun a b => a.f0 < b.f0
theorem putM_mem {v : Int} {t : Tm} : ∀ {m : List Bd} {b : Bd}, b ∈ putM v t m → b = ⟨v, t⟩ ∨ b ∈ m
  | [], b, h => by simp [putM] at h; exact .inl h
  | c :: r, b, h => by
    unfold putM at h
    split at h
    · simp only [List.mem_cons] at h ⊢; exact h
    · split at h
      · simp only [List.mem_cons] at h ⊢; rcases h with h | h
        · exact .inl h
        · exact .inr (.inr h)
      · simp only [List.mem_cons] at h ⊢; rcases h with h | h
        · exact .inr (.inl h)
        · rcases putM_mem h with h | h
          · exact .inl h
          · exact .inr (.inr h)
theorem putM_rising {v : Int} {t : Tm} : ∀ {m : List Bd}, Rising m → Rising (putM v t m)
  | [], _ => by simp [putM, Rising]
  | c :: r, h => by
    obtain ⟨h1, h2⟩ := List.pairwise_cons.1 h
    unfold putM
    split
    · rename_i hv
      refine List.pairwise_cons.2 ⟨fun b hb => ?_, h⟩
      rcases List.mem_cons.1 hb with rfl | hb
      · exact hv
      · have := h1 b hb; show v < b.f0; omega
    · split
      · rename_i hv
        refine List.pairwise_cons.2 ⟨fun b hb => ?_, h2⟩
        have := h1 b hb; show v < b.f0; omega
      · refine List.pairwise_cons.2 ⟨fun b hb => ?_, putM_rising h2⟩
        rcases putM_mem hb with rfl | hb
        · show c.f0 < v; omega
        · exact h1 b hb
theorem sameKey_int (x y : Int) : Lit.sameKey (.int .i64 x) (.int .i64 y) = (x == y) := by
  simp only [Lit.sameKey, true_and]
  rw [Bool.eq_iff_iff]
  simp
theorem filter_lt {v : Int} : ∀ {r : List Bd}, (∀ b ∈ r, v < b.f0) → r.filter (fun b => !(b.f0 == v)) = r := by
  intro r h
  rw [List.filter_eq_self]
  intro b hb
  have := h b hb
  have e : (b.f0 == v) = false := by simp; omega
  rw [e]; rfl
def insB (v : Int) (t : Tm) : List Bd → List Bd
  | [] => [⟨v, t⟩]
  | c :: r => if v < c.f0 then ⟨v, t⟩ :: c :: r else c :: insB v t r
theorem insert_ent {v : Int} {t : Tm} : ∀ (r : List Bd), DataW.insert (entB ⟨v, t⟩) (r.map entB) = (insB v t r).map entB
  | [] => rfl
  | c :: r => by
    simp only [List.map_cons, DataW.insert, insB]
    have e : (entB ⟨v, t⟩).1.before (entB c).1 = decide (v < c.f0) := rfl
    rw [e]
    by_cases h : v < c.f0
    · rw [if_pos (by simpa using h), if_pos h]; rfl
    · rw [if_neg (by simpa using h), if_neg h, List.map_cons, ← insert_ent r]
theorem ins_put {v : Int} {t : Tm} : ∀ {m : List Bd}, Rising m → insB v t (m.filter fun b => !(b.f0 == v)) = putM v t m
  | [], _ => rfl
  | c :: r, h => by
    obtain ⟨h1, h2⟩ := List.pairwise_cons.1 h
    unfold putM
    by_cases hv : v < c.f0
    · rw [if_pos hv, filter_lt (fun b hb => by rcases List.mem_cons.1 hb with rfl | hb; exact hv; have := h1 b hb; omega)]
      simp [insB, hv]
    · rw [if_neg hv]
      by_cases he : c.f0 = v
      · rw [if_pos he, List.filter_cons_of_neg (by simp [he]), filter_lt (fun b hb => by have := h1 b hb; omega)]
        cases r with
        | nil => rfl
        | cons d s => simp [insB, show v < d.f0 by have := h1 d (by simp); omega]
      · rw [if_neg he, List.filter_cons_of_pos (by simpa using he)]
        simp only [insB]
        rw [if_neg hv, ins_put h2]
theorem put_mapD {v : Int} {t : Tm} {m : List Bd} (h : Rising m) : (mapD m).put (.int .i64 v) (.held t) = mapD (putM v t m) := by
  unfold mapD DataW.put
  dsimp only
  have e : (m.map entB).filter (fun p => !p.1.sameKey (.int .i64 v)) = (m.filter fun b => !(b.f0 == v)).map entB := by
    rw [List.filter_map]
    congr 1
    apply List.filter_congr
    intro b _
    simp only [Function.comp, entB]
    rw [sameKey_int]
  rw [e]
  have := insert_ent (v := v) (t := t) (m.filter fun b => !(b.f0 == v))
  rw [ins_put h] at this
  rw [← this]
  rfl
theorem has_mapD (v : Int) : ∀ (m : List Bd), Maps.has (mapD m) (.int .i64 v) = (getM m v).isSome
  | [] => rfl
  | c :: r => by
    have ih := has_mapD v r
    unfold mapD getM Maps.has at ih ⊢
    simp only [List.map_cons, List.any_cons, List.find?_cons, entB] at ih ⊢
    rw [sameKey_int]
    cases h : c.f0 == v with
    | true => simp
    | false => simpa using ih
theorem atKey_mapD (v : Int) (z : DataW Tm) : ∀ (m : List Bd), (mapD m).atKey (.int .i64 v) z = match getM m v with | some t => .held t | none => z
  | [] => rfl
  | c :: r => by
    have ih := atKey_mapD v z r
    unfold mapD getM DataW.atKey at ih ⊢
    simp only [List.map_cons, List.find?_cons, entB] at ih ⊢
    rw [sameKey_int]
    cases h : c.f0 == v with
    | true => simp
    | false => simpa using ih
theorem getM_mem {v : Int} {t : Tm} : ∀ {m : List Bd}, getM m v = some t → (⟨v, t⟩ : Bd) ∈ m
  | [], h => by simp [getM] at h
  | c :: r, h => by
    unfold getM at h
    rw [List.find?_cons] at h
    cases he : c.f0 == v with
    | true =>
      rw [he] at h
      simp at h he
      subst h he
      exact .head _
    | false =>
      rw [he] at h
      exact .tail _ (getM_mem (m := r) h)
theorem rising_getM : ∀ {m : List Bd}, Rising m → ∀ {b : Bd}, b ∈ m → getM m b.f0 = some b.f1
  | c :: r, h, b, hb => by
    obtain ⟨h1, h2⟩ := List.pairwise_cons.1 h
    unfold getM
    rw [List.find?_cons]
    rcases List.mem_cons.1 hb with rfl | hb
    · simp
    · have h3 := h1 b hb
      have e : (c.f0 == b.f0) = false := by simp; omega
      rw [e]
      exact rising_getM h2 hb
/-- Two lists of the same elements, each strictly rising, are one. -/
theorem rising_eq : ∀ {l m : List Bd}, Rising l → Rising m → (∀ b, b ∈ l ↔ b ∈ m) → l = m
  | [], [], _, _, _ => rfl
  | [], c :: r, _, _, h => by have := (h c).2 (.head _); simp at this
  | c :: r, [], _, _, h => by have := (h c).1 (.head _); simp at this
  | a :: l, c :: m, h1, h2, h => by
    obtain ⟨h3, h4⟩ := List.pairwise_cons.1 h1
    obtain ⟨h5, h6⟩ := List.pairwise_cons.1 h2
    have e : a = c := by
      rcases List.mem_cons.1 ((h a).1 (.head _)) with h7 | h7
      · exact h7
      · rcases List.mem_cons.1 ((h c).2 (.head _)) with h8 | h8
        · exact h8.symm
        · have := h5 a h7; have := h3 c h8; omega
    subst e
    have : l = m := rising_eq h4 h6 fun b => by
      constructor
      · intro hb
        rcases List.mem_cons.1 ((h b).1 (.tail _ hb)) with rfl | h7
        · have := h3 b hb; omega
        · exact h7
      · intro hb
        rcases List.mem_cons.1 ((h b).2 (.tail _ hb)) with rfl | h7
        · have := h5 b hb; omega
        · exact h7
    rw [this]
/-- A list of m's entries, sorted by Var, is m. -/
theorem sorted_unique {m l l' : List Bd} (hm : Rising m) (hl : l.Perm m) (hl' : l'.Perm l) (hs : l'.Pairwise fun a b => ¬ b.f0 < a.f0) : l' = m := by
  have hp := hl'.trans hl
  have hr : Rising l' := by
    have hk : (l'.map (·.f0)).Nodup := by
      have : (m.map (·.f0)).Nodup := by
        rw [List.nodup_iff_pairwise_ne, List.pairwise_map]
        exact hm.imp fun {a b} hab => by omega
      exact ((hp.map _).nodup_iff).2 this
    rw [List.nodup_iff_pairwise_ne, List.pairwise_map] at hk
    exact (hs.and hk).imp fun {a b} ⟨h1, h2⟩ => by omega
  exact rising_eq hr hm fun b => hp.mem_iff
/-- What has been read of the map while the loop is under way. -/
def Got (m : List Bd) (left : Lit → Bool) (l : List Bd) : Prop := l.Perm (m.filter fun b => !left (.int .i64 b.f0))
theorem Got.start (m : List Bd) : Got m (Maps.has (mapD m)) [] := by
  unfold Got
  rw [List.filter_eq_nil_iff.2]
  intro b hb
  have : Maps.has (mapD m) (.int .i64 b.f0) = true := by
    unfold mapD Maps.has
    simp only [List.any_map, List.any_eq_true]
    exact ⟨b, hb, by simp only [Function.comp, entB]; rw [sameKey_int]; simp⟩
  simp [this]
theorem filter_step {left : Lit → Bool} {x : Int} {t : Tm} (hl : left (.int .i64 x) = true) : ∀ {m : List Bd}, Rising m → (⟨x, t⟩ : Bd) ∈ m →
    (m.filter fun b => !(left (.int .i64 b.f0) && !(Lit.sameKey (.int .i64 b.f0) (.int .i64 x)))).Perm (⟨x, t⟩ :: m.filter fun b => !left (.int .i64 b.f0))
  | c :: r, hm, h => by
    obtain ⟨h1, h2⟩ := List.pairwise_cons.1 hm
    by_cases hc : c.f0 = x
    · have e : c = ⟨x, t⟩ := by
        rcases List.mem_cons.1 h with h | h
        · exact h.symm
        · have := h1 _ h; simp at this; omega
      subst e
      rw [List.filter_cons_of_pos (by rw [sameKey_int]; simp), List.filter_cons_of_neg (by simp [hl])]
      refine List.Perm.cons _ ?_
      refine List.Perm.of_eq (List.filter_congr fun b hb => ?_)
      have := h1 b hb
      rw [sameKey_int, show (b.f0 == x) = false by simp; simp at this; omega]
      simp
    · have hin : (⟨x, t⟩ : Bd) ∈ r := by
        rcases List.mem_cons.1 h with h | h
        · exact absurd (by rw [← h]) hc
        · exact h
      have ih := filter_step hl h2 hin
      cases hlc : left (.int .i64 c.f0) with
      | true =>
        rw [List.filter_cons_of_neg (by rw [sameKey_int]; simp [hlc, hc]), List.filter_cons_of_neg (by simp [hlc])]
        exact ih
      | false =>
        rw [List.filter_cons_of_pos (by simp [hlc]), List.filter_cons_of_pos (by simp [hlc])]
        exact (ih.cons c).trans (List.Perm.swap _ _ _)
theorem Got.step {m l : List Bd} {left : Lit → Bool} {x : Int} {t : Tm} (h : Got m left l) (hm : Rising m) (hl : left (.int .i64 x) = true) (ht : (⟨x, t⟩ : Bd) ∈ m) : Got m (fun z => left z && !z.sameKey (.int .i64 x)) (l ++ [⟨x, t⟩]) := by
  unfold Got at *
  exact (List.perm_append_singleton _ _).trans ((h.cons _).trans (filter_step hl hm ht).symm)
theorem Got.done {m l : List Bd} {left : Lit → Bool} (h : Got m left l) (h0 : ∀ kl, left kl = false) : l.Perm m := by
  unfold Got at h
  have e : (m.filter fun b => !left (.int .i64 b.f0)) = m := List.filter_eq_self.2 fun b _ => by simp [h0]
  rwa [e] at h
theorem Got.len {m l : List Bd} {left : Lit → Bool} (h : Got m left l) : l.length ≤ m.length := by
  rw [h.length_eq]; exact List.length_filter_le _ _
end Go.Proofs.YtnomgmlfagiffaaDoor.T
/- The frames of the laws: arguments opened, what the row lists read off, the arguments handed back. -/
set_option linter.unusedVariables false
namespace Go.Proofs.YtnomgmlfagiffaaDoor.T
open Go.ChangeShapes Go.WideShapes Go.ChangeAt Go.RowKit Go.Deep Go.Proofs.YtnomgmlfagiffaaDoorW.PrintWords
theorem cI : Tryd.prog.cellsOf 3 = 1 := by kernel_rfl
theorem cS : Tryd.prog.cellsOf 9 = 1 := by kernel_rfl
theorem cT : Tryd.prog.cellsOf 23 = 3 := by kernel_rfl
section
variable {H : Type} {enc : TypeId × Value → H}
def dT (t : Tm) : DataW H := .agg [.lit (.int .i64 t.f0), .lit (.int .i64 t.f1), .lit (.string t.f2.data.toList)]
theorem wf_inI {x : Int} (h : (Lit.int .i64 x).wf = true) : inI x = true := by
  simp [Lit.wf, IntKind.min, IntKind.max, IntKind.bits, IntKind.signed] at h
  simp [inI]
  omega
set_option maxRecDepth 100000 in
theorem open_T {W : World} {base : Nat} {sp : Nat → Bool} {held : Bool} {fuel : Nat} {cs : List Value} {x : DataW H × List MemPlace} (h : DataW.trod enc Tryd.prog W base sp held fuel 23 cs = some x) :
    ∃ t : Tm, cs = [.int .i64 t.f0, .int .i64 t.f1, .string t.f2] ∧ x = (dT t, []) ∧ okT t = true := by
  obtain ⟨y0, y1, y2, k, rfl, hl, u0, u1, u2⟩ := trod_struct3 Tryd.underlying23 h
  have hl3 : cs.length = 3 := by rw [hl, cT]
  match cs, hl3 with
  | [v0, v1, v2], _ =>
    simp only [cI, cS, List.drop, List.take] at u0 u1 u2
    obtain ⟨a, e0, rfl, w0⟩ := DataW.trod_int Tryd.underlying3 u0
    obtain ⟨b, e1, rfl, w1⟩ := DataW.trod_int Tryd.underlying3 u1
    obtain ⟨s, e2, rfl, w2⟩ := DataW.trod_string Tryd.underlying9 u2
    simp only [List.cons.injEq, and_true] at e0 e1 e2
    subst e0; subst e1; subst e2
    refine ⟨⟨a, b, s⟩, rfl, rfl, ?_⟩
    simp only [okT, Bool.and_eq_true, decide_eq_true_eq]
    exact ⟨wf_inI w0, wf_inI w1, by simpa [maxLen] using w2⟩
/-- What is read as before, behind the call. -/
theorem trodAll_below {P : Program} (hl : laidOutB P = true) {W W' : World} (hb : Below W.heap.size W W') : ∀ {ts : List TypeId} {vs : List Value} {ds : List (DataW H)} {ps : List MemPlace},
    (∀ t ∈ ts, P.readableRec t = true ∧ t < P.types.size) → DataW.TrodAll enc P W 0 (fun _ => true) true ts vs ds ps → (∀ x ∈ ps, x.block < W.heap.size) → DataW.TrodAll enc P W' 0 (fun b => decide (b < W.heap.size)) true ts vs ds ps
  | [], [], [], ps, _, h, _ => h
  | t :: ts, v :: vs, d :: ds, ps, hr, h, hlt => by
    obtain ⟨p, q, h1, h2, rfl⟩ := h
    exact ⟨p, q, h1.elim fun n hn => Below.trod hl (hr t (.head _)).1 (hr t (.head _)).2 ⟨n, hn⟩ hb (fun x hx => hlt x (List.mem_append_left _ hx)), trodAll_below hl hb (fun t ht => hr t (.tail _ ht)) h2 (fun x hx => hlt x (List.mem_append_right _ hx)), rfl⟩
  | [], _ :: _, _, _, _, h, _ => h.elim
  | [], [], _ :: _, _, _, h, _ => h.elim
  | _ :: _, [], _, _, _, h, _ => h.elim
  | _ :: _, _ :: _, [], _, _, h, _ => h.elim
/-- The post of a law that answers true and leaves what was there. -/
theorem post_true {P : Program} {f : Func} {s : ChangeSpec} {tb : TypeId} (hl : laidOutB P = true) (hr : ∀ t ∈ f.params.toList, P.readableRec t = true ∧ t < P.types.size) (hv : s.vars = []) (hrt : f.resultTypes = #[tb]) (hu : P.underlying tb = some .bool)
    {W W' : World} {args : Array Value} {ds gs : List (DataW H)} {before : List MemPlace} (hW : DataW.Whole enc P f.params.toList s.vars false W args.toList ds gs before)
    (hfn : s.fn H (ds ++ gs) = { results := [.lit (.bool true)], args := ds }) (hb : Below W.heap.size W W') : s.post enc P f false true false false W args (.bool true) W' := by
  have hW0 := hW
  have hlt := hW.lt
  obtain ⟨p, q, hA, hV, rfl, hfz, hnd⟩ := hW
  rw [hv] at hV
  obtain ⟨rfl, rfl⟩ := trodVars_none hV
  refine ⟨ds, [], p ++ [], [], p, [], hW0, ?_, ?_, ?_, hb.frame _, fun h => by cases h⟩
  · rw [hfn, hrt]
    exact trodAll_mk1 (shut_bool hu _)
  · rw [hfn]
    exact trodAll_below hl hb hr hA (fun x hx => hlt x (List.mem_append_left _ hx))
  · rw [hfn, hv]
    exact rfl
end
end Go.Proofs.YtnomgmlfagiffaaDoor.T
/- The frames of the laws: bindings and atoms opened; the bound on what is handed in. -/
set_option linter.unusedVariables false
set_option linter.unusedSimpArgs false
namespace Go.Proofs.YtnomgmlfagiffaaDoor.T
open Go.ChangeShapes Go.WideShapes Go.ChangeAt Go.RowKit Go.Deep Go.Proofs.YtnomgmlfagiffaaDoorW.PrintWords
section
variable {H : Type} {enc : TypeId × Value → H}
theorem add_add' (a : Addr) (m n : Nat) : (a.add m).add n = a.add (m + n) := by
  unfold Addr.add
  by_cases hm : m = 0
  · subst hm; simp
  · by_cases hn : n = 0
    · subst hn; simp [hm]
    · simp [hm, hn, Nat.add_assoc]
set_option maxRecDepth 100000 in
/-- A slice of such elements, as the walks read it. -/
theorem open_list {α : Type} {W : World} {base : Nat} {sp : Nat → Bool} {held : Bool} {fuel : Nat} {t e : TypeId} {sz : Nat} {cs : List Value} {x : DataW H × List MemPlace} (d : Kd α) (encL : α → List Value) (dat : α → DataW H) (ok : α → Bool)
    (hopen : ∀ (fuel : Nat) (cs : List Value) (y : DataW H × List MemPlace), DataW.trod enc Tryd.prog W base sp held fuel e cs = some y → ∃ b : α, cs = encL b ∧ y.1 = dat b ∧ ok b = true)
    (hsz : Tryd.prog.cellsOf e = sz) (hd : d.sz = sz) (hK : ∀ b, d.K W b (encL b)) (ht : Tryd.prog.underlying t = some (.slice e)) (h : DataW.trod enc Tryd.prog W base sp held fuel t cs = some x) :
    ∃ (A : Option Addr) (c : Nat) (l : List α), cs = [.slice A l.length c] ∧ l.length ≤ c ∧ d.C W A l.length l ∧ l.all ok = true ∧ ((x.1 = .nil ∧ l = []) ∨ ∃ r, x.1 = .slice (l.map dat) r) := by
  rcases open_slice ht h with ⟨rfl, rfl⟩ | ⟨a, len, cap, m, n, D, Pl, rfl, hb, hl, hm, hmm, rfl, hx⟩
  · exact ⟨none, 0, [], rfl, Nat.le_refl _, ⟨rfl, by simp, fun h => by simp at h⟩, rfl, .inl ⟨rfl, rfl⟩⟩
  · have hlm : len ≤ m := by rw [hmm]; split <;> omega
    have each : ∀ i, i < len → ∃ b : α, (∀ (j : Nat) (u : Value), (encL b)[j]? = some u → W.cell? (a.add (i * sz + j)) = some u) ∧ D i = dat b ∧ ok b = true := by
      intro i hi
      obtain ⟨cs', h1, h2⟩ := hx i (by omega)
      obtain ⟨b, rfl, hdb, hob⟩ := hopen _ _ _ h2
      rw [hsz] at h1
      obtain ⟨_, hlen, hcell⟩ := World.cells?_some h1
      refine ⟨b, fun j u hu => ?_, hdb, hob⟩
      have hj : j < sz := by rw [← hlen]; exact (List.getElem?_eq_some_iff.1 hu).1
      have := hcell j hj
      rw [add_add'] at this
      rw [this, hu]
    rcases Nat.eq_zero_or_pos len with h0 | h0
    · subst h0
      exact ⟨some a, cap, [], rfl, Nat.zero_le _, ⟨rfl, by simp, fun h => by simp at h⟩, rfl, .inr ⟨_, rfl⟩⟩
    · obtain ⟨b0, _⟩ := each 0 h0
      letI : Inhabited α := ⟨b0⟩
      obtain ⟨B, hB⟩ := choose_lt each
      have hlen : ((List.range len).map B).length = len := by simp
      refine ⟨some a, cap, (List.range len).map B, by rw [hlen], by rw [hlen]; exact hl, ⟨rfl, by rw [hlen]; simp [maxLen] at hm; omega, fun _ => ⟨a, rfl, fun j p hj => ?_⟩⟩, ?_, .inr ⟨(List.range (m - len)).map fun j => D (len + j), ?_⟩⟩
      · obtain ⟨hj1, hj2⟩ := List.getElem?_eq_some_iff.1 hj
        simp only [List.getElem_map, List.getElem_range] at hj2
        rw [hlen] at hj1
        subst hj2
        exact ⟨encL (B j), d.K_len (hK _), hK _, by rw [hd]; exact (hB j hj1).1⟩
      · rw [List.all_eq_true]
        intro b hb
        obtain ⟨i, hi, rfl⟩ := List.mem_map.1 hb
        exact (hB i (List.mem_range.1 hi)).2.2
      · rw [List.map_map, List.map_congr_left (fun i hi => (hB i (List.mem_range.1 hi)).2.1)]
        rfl
def encTs (t : Tm) : List Value := [.int .i64 t.f0, .int .i64 t.f1, .string t.f2]
theorem open_Ts {W : World} {base : Nat} {sp : Nat → Bool} {held : Bool} {fuel : Nat} {cs : List Value} {x : DataW H × List MemPlace} (h : DataW.trod enc Tryd.prog W base sp held fuel 24 cs = some x) :
    ∃ (A : Option Addr) (c : Nat) (l : List Tm), cs = [.slice A l.length c] ∧ l.length ≤ c ∧ Kd.C k23 W A l.length l ∧ l.all okT = true ∧ ((x.1 = .nil ∧ l = []) ∨ ∃ r, x.1 = .slice (l.map dT) r) :=
  open_list k23 encTs dT okT (fun _ _ _ h => by obtain ⟨t, e, hx, ho⟩ := open_T h; exact ⟨t, e, by rw [hx], ho⟩) cT rfl (fun b => k23_mk W b) Tryd.underlying24 h
/-- What an atom reads as: its qualifier, its name, its arguments. -/
def isA (d : DataW H) (t : Tm) (nm : ByteArray) (l : List Tm) : Prop := ∃ dl, d = .agg [dT t, .lit (.string nm.data.toList), dl] ∧ ((dl = .nil ∧ l = []) ∨ ∃ r, dl = .slice (l.map dT) r)
set_option maxRecDepth 100000 in
theorem arg_A {W : World} {base b0 : Nat} {sp : Nat → Bool} {held : Bool} {r : Reach} {v : Value} {d : DataW H} {ps : List MemPlace} (hval : Value.okWide Tryd.prog W r b0 26 v) (h : DataW.Trod enc Tryd.prog W base sp held 26 v d ps) :
    ∃ (t : Tm) (nm : ByteArray) (A : Option Addr) (c : Nat) (l : List Tm), v = .agg #[.int .i64 t.f0, .int .i64 t.f1, .string t.f2, .string nm, .slice A l.length c] ∧ l.length ≤ c ∧ Kd.C k23 W A l.length l ∧ okT t = true ∧ l.all okT = true ∧ isA d t nm l := by
  obtain ⟨cs, rfl, hcs⟩ := okWide_struct Tryd.underlying26 hval
  obtain ⟨fuel, h⟩ := h
  have h := (show DataW.trod enc Tryd.prog W base sp held fuel 26 cs.toList = some (d, ps) by simpa [Value.cells] using h)
  obtain ⟨y0, y1, y2, k, hx, hl, u0, u1, u2⟩ := trod_struct3 Tryd.underlying26 h
  have hl5 : cs.toList.length = 5 := by rw [hl]; kernel_rfl
  obtain ⟨cl⟩ := cs
  match cl, hl5 with
  | [v0, v1, v2, v3, v4], _ =>
    simp only [cT, cS, (show Tryd.prog.cellsOf 24 = 1 by kernel_rfl), List.drop, List.take] at u0 u1 u2
    obtain ⟨t, e0, rfl, ot⟩ := open_T u0
    obtain ⟨nm, e1, rfl, w1⟩ := DataW.trod_string Tryd.underlying9 u1
    obtain ⟨A, c, l, e2, hlc, hC, hok, hd⟩ := open_Ts u2
    simp only [List.cons.injEq, and_true] at e0 e1 e2
    obtain ⟨rfl, rfl, rfl⟩ := e0
    subst e1 e2
    injection hx with hx _
    exact ⟨t, nm, A, c, l, rfl, hlc, hC, ot, hok, y2.1, hx, hd⟩
theorem bulk_list {α : Type} (dat : α → DataW H) (hd : ∀ x, 1 ≤ Rows.uptoBulk (dat x)) : ∀ l : List α, l.length ≤ Rows.uptoBulkAll (l.map dat)
  | [] => by simp
  | a :: r => by
    have := bulk_list dat hd r
    have := hd a
    simp only [List.map_cons, Rows.uptoBulkAll, List.length_cons]
    omega
theorem bulk_A {d : DataW H} {t : Tm} {nm : ByteArray} {l : List Tm} (h : isA d t nm l) : l.length ≤ Rows.uptoBulk d := by
  obtain ⟨dl, rfl, h⟩ := h
  have h2 : l.length ≤ Rows.uptoBulk dl := by
    rcases h with ⟨_, rfl⟩ | ⟨r, rfl⟩
    · simp
    · have := bulk_list (H := H) dT (fun x => by simp [dT, Rows.uptoBulk]) l
      simp only [Rows.uptoBulk]
      omega
  simp only [Rows.uptoBulk, Rows.uptoBulkAll]
  omega
end
end Go.Proofs.YtnomgmlfagiffaaDoor.T
/- What the rows' lists of package variables say, of three variables. -/
set_option linter.unusedVariables false
namespace Go.Proofs.YtnomgmlfagiffaaDoor.T
open Go.ChangeShapes Go.WideShapes Go.ChangeAt Go.RowKit Go.Deep Go.Proofs.YtnomgmlfagiffaaDoorW.PrintWords
theorem laid_at {W : World} : ∀ {l : List (String × DataW Unit)} {ps : List MemPlace}, DataW.LaidVars Tryd.prog W l ps → ∀ {n : String} {d : DataW Unit}, (n, d) ∈ l →
    ∃ g t cs fuel p, Tryd.prog.globalNamed n = some g ∧ (Tryd.prog.globals[g]?).map (·.type) = some t ∧ W.var? Tryd.prog n = some cs ∧ DataW.trod (fun _ => ()) Tryd.prog W 0 (fun _ => true) false fuel t cs.toList = some (d, p)
  | [], _, _, _, _, h => by simp at h
  | (n0, d0) :: r, ps, hl, n, d, h => by
    obtain ⟨g, t, cs, fuel, p, q, hg, ht, hv, hd, hr, _⟩ := hl
    rcases List.mem_cons.1 h with h | h
    · injection h with h1 h2
      subst h1 h2
      exact ⟨g, t, cs, fuel, p, hg, ht, hv, hd⟩
    · exact laid_at hr h
theorem ba_of_list {s : ByteArray} {l : List UInt8} (h : l = s.data.toList) : s = ⟨⟨l⟩⟩ := by
  cases s with
  | mk d => simp only at h; rw [h]
theorem gMark : Tryd.prog.globalNamed "hearsay/hearsaylaw02.mark" = some 1 := by kernel_rfl
theorem gMarkT : (Tryd.prog.globals[1]?).map (·.type) = some 23 := by kernel_rfl
theorem mark_at {W : World} {l : List (String × DataW Unit)} {ps : List MemPlace} (hl : DataW.LaidVars Tryd.prog W l ps) (hm : ("hearsay/hearsaylaw02.mark", Rows.laid_hearsay_hearsaylaw02_mark) ∈ l) : Laid1 W := by
  obtain ⟨g, t, cs, fuel, p, hg, ht, hvar, hd⟩ := laid_at hl hm
  obtain rfl := Option.some.inj (gMark.symm.trans hg)
  obtain rfl := Option.some.inj (gMarkT.symm.trans ht)
  obtain ⟨t0, e, hx, _⟩ := open_T hd
  injection hx with h1 _
  have h2 : Rows.laid_hearsay_hearsaylaw02_mark = dT (H := Unit) ⟨3, 901, ⟨#[109, 97, 114, 107]⟩⟩ := rfl
  rw [h2] at h1
  simp only [dT, DataW.agg.injEq, List.cons.injEq, DataW.lit.injEq, Lit.int.injEq, Lit.string.injEq, and_true, true_and] at h1
  obtain ⟨e0, e1, e2⟩ := h1
  have c := fun i => World.var?_cell (cs := cs) gMark hvar i
  have e4 : cs = #[.int .i64 3, .int .i64 901, .string ⟨#[109, 97, 114, 107]⟩] := Array.toList_inj.1 (by rw [e, ← e0, ← e1, ba_of_list e2])
  subst e4
  exact ⟨c 0, c 1, c 2⟩
end Go.Proofs.YtnomgmlfagiffaaDoor.T
-- By a program of this session (wip/tools/myprint.py), out of the translation.
namespace Go.Proofs.YtnomgmlfagiffaaDoor.T
open Go.RowKit Go.Proofs.YtnomgmlfagiffaaDoorW.PrintWords Go.Proofs.YtnomgmlfagiffaaDoorW.PrintLast Go.Proofs.YtnomgmlfagiffaaDoorW.PrintMore
attribute [local go_sem] max2_int min2_int max_two min_two max_three min_three max_four min_four   -- for this text's walks alone
set_option linter.unusedVariables false
set_option linter.unusedSimpArgs false

attribute [local go_sem high] eqA23
def hearsayref02_holds.l0 : Nat → List (S23) → Int → Int → Int → ByteArray → Option (Bool)
  | 0, _, _, _, _, _ => none
  | k + 1, x0, x5, x502000, x502001, x502002 => if x5 < (x0.length : Int) then (if 0 ≤ x5 then (if (((rd_T23 x0 x5).f0) == x502000 && (((rd_T23 x0 x5).f1) == x502001 && ((((rd_T23 x0 x5).f2).toList) == x502002.toList))) = true then (some true) else (hearsayref02_holds.l0 k x0 (wrap64 (x5 + 1)) x502000 x502001 x502002)) else (none)) else (some false)
def hearsayref02_holds.f (k : Nat) (l0 : List (S23)) (a1_0 : Int) (a1_1 : Int) (a1_2 : ByteArray) : Option (Bool) := hearsayref02_holds.l0 k l0 0 a1_0 a1_1 a1_2
set_option maxHeartbeats 8000000 in
set_option maxRecDepth 100000 in
theorem hearsayref02_holds.calls (k : Nat) (A0 : Option Addr) (c0 : Nat) (l0 : List (S23)) (a1_0 : Int) (a1_1 : Int) (a1_2 : ByteArray) (r : Bool) (w : World) (hr0 : Kd.C k23 w A0 l0.length l0) (hc0 : l0.length ≤ c0) (h : hearsayref02_holds.f k l0 a1_0 a1_1 a1_2 = some r) :
    Calls Tryd.prog 84 #[.slice A0 l0.length c0, .agg #[.int .i64 a1_0, .int .i64 a1_1, .string a1_2]] w fun e w' => e = .returned (.bool r) ∧ Below w.heap.size w w' := by
  have hu23 := Tryd.underlying23
  have HR0 := Aside0.mk hr0
  have HC0 := Aside0.mk hc0
  clear hr0 hc0
  have HB := Aside0.mk (Below.refl w.heap.size w)
  have H : (hearsayref02_holds.l0 k l0 0 a1_0 a1_1 a1_2) = some r := h
  clear h
  have H' := Aside0.mk H
  clear H
  go_enter Tryd.func84, Tryd.ntmps84
  go_wp2_with (first | ((with_reducible refine gate_dst (N := 3) rfl ?_); refine box_event ?hg (N := 3) ?hd (cs := #[.int .i64 a1_0, .int .i64 a1_1, .string a1_2]) (t := 23) ?hr ?_; (case hd => rfl); (case hg => rfl); (case hr => first | (go_simp; done) | (go_simp; rfl)); intro gb501 hg w3 hbox hb; have n0_ := Aside0.mk (below_step (by repeat (first | (with_reducible first | exact HB.out | apply below_alloc | apply pw_below_drewN | apply below_drew1) | exact HB.out)) hb); have n1_ := Aside0.mk (hbox); have n2_ := Aside0.mk ((by rw [hg]; exact (below_size (by repeat (first | (with_reducible first | exact HB.out | apply below_alloc | apply pw_below_drewN | apply below_drew1) | exact HB.out))) : w.heap.size ≤ gb501)); have n3_ := Aside0.mk ((by rw [hg]; exact (below_size (by repeat (first | (with_reducible first | exact HB.out | apply below_alloc | apply pw_below_drewN | apply below_drew1) | exact HB.out))) : w.heap.size ≤ gb501)); clear HB; have HB := n0_; have BK501 := n1_; have GW501 := n2_; have GE501 := n3_; clear n0_ n1_ n2_ n3_; clear hb hbox hg))
  repeat (go_quiet (fail); try go_wp2)
  go_loopg [5] k (fun kq v5 w' => ∃ (x5_1 : Int), v5 = .int .i64 x5_1 ∧ Aside0 (hearsayref02_holds.l0 kq l0 x5_1 a1_0 a1_1 a1_2 = some r) ∧ Aside0 (kq ≤ k) ∧ Aside0 (w'.heap[gb501]? = some (.cells #[.int .i64 a1_0, .int .i64 a1_1, .string a1_2] 23 (0, 0))) ∧ Aside0 (Below w.heap.size w w'))
  case atStart => exact ⟨(0), (by first | rfl | (simp; done) | (simp [*]; done)), H', ⟨Nat.le_refl _⟩, ⟨by (with_reducible repeat (first | refine blk_drewN ?_ _ | refine blk_drew ?_ | refine blk_alloc ?_ _)); exact BK501.out⟩, ⟨by repeat (first | (with_reducible first | exact HB.out | apply below_alloc | apply pw_below_drewN | apply below_drew1 | refine below_set ?_ GE501.out) | exact HB.out)⟩⟩
  case round =>
    clear H'
    try clear p2
    obtain ⟨x5_1, rfl, HA, HK1, BK501, HB⟩ := hrel
    cases gk with
    | zero => exact absurd HA.out (by simp [hearsayref02_holds.l0])
    | succ k1 =>
      have H := HA.out
      clear HA
      simp only [hearsayref02_holds.l0] at H
      by_cases c4 : x5_1 < (l0.length : Int)
      · rw [if_pos c4] at H
        have c4b0 : decide (x5_1 < (l0.length : Int)) = true := decide_eq_true c4
        clear c4
        by_cases c5 : 0 ≤ x5_1
        · rw [if_pos c5] at H
          have c5b0 : decide (0 ≤ x5_1) = true := decide_eq_true c5
          clear c5
          by_cases c6 : (((rd_T23 l0 x5_1).f0) == a1_0 && (((rd_T23 l0 x5_1).f1) == a1_1 && ((((rd_T23 l0 x5_1).f2).toList) == a1_2.toList))) = true
          · rw [if_pos c6] at H
            have c6b0 : (((rd_T23 l0 x5_1).f0) == a1_0 && (((rd_T23 l0 x5_1).f1) == a1_1 && ((((rd_T23 l0 x5_1).f2).toList) == a1_2.toList))) = true := c6
            (try (have c6b1 : decide (((rd_T23 l0 x5_1).f0) = a1_0 && (((rd_T23 l0 x5_1).f1) == a1_1 && ((((rd_T23 l0 x5_1).f2).toList) == a1_2.toList))) = true := by simpa using c6))
            (try (have c6b2 : (((rd_T23 l0 x5_1).f0) == a1_0 && (((rd_T23 l0 x5_1).f1) == a1_1 && ((((rd_T23 l0 x5_1).f2).toList) == a1_2.toList))) = true := by simpa using c6))
            clear c6
            obtain rfl := Option.some.inj H
            have p502 : 0 ≤ (x5_1 : Int) := of_decide_eq_true (by first | (with_reducible assumption) | assumption)
            have q502 : x5_1 < (l0.length : Int) := of_decide_eq_true (by first | (with_reducible assumption) | assumption)
            obtain ⟨ad502, e502, hx502_0, hx502_1, hx502_2⟩ := at_T23 HR0.out x5_1 p502 q502
            cases e502
            replace hx502_0 := (HB.out.cell (World.block_lt_of_cell? w _ hx502_0)).trans hx502_0
            replace hx502_1 := (HB.out.cell (World.block_lt_of_cell? w _ hx502_1)).trans hx502_1
            replace hx502_2 := (HB.out.cell (World.block_lt_of_cell? w _ hx502_2)).trans hx502_2
            replace p502 := eq_true p502
            replace q502 := eq_true q502
            have hcz7_0 : wr.cell? ⟨gb501, 0, none⟩ = some (.int .i64 a1_0) := (blk_cell BK501.out 0).trans rfl
            have hcz7_1 : wr.cell? ⟨gb501, 1, none⟩ = some (.int .i64 a1_1) := (blk_cell BK501.out 1).trans rfl
            have hcz7_2 : wr.cell? ⟨gb501, 2, none⟩ = some (.string a1_2) := (blk_cell BK501.out 2).trans rfl
            have hfz7_0 := blk_frozen BK501.out 0
            have hfz7_1 := blk_frozen BK501.out 1
            have hfz7_2 := blk_frozen BK501.out 2
            go_wp2
            repeat (go_quiet (fail); try go_wp2)
            go_ret
            exact ⟨by first | rfl | (simp [errW_none, errW_some] <;> rfl) | (simp [errW_none, errW_some, bne, show ∀ l_ : List UInt8, (l_ == []) = l_.isEmpty from fun l_ => by cases l_ <;> rfl]; done) | (simp [*, errW_none, errW_some] <;> rfl), by repeat (first | (with_reducible first | exact HB.out | apply below_alloc | apply pw_below_drewN | apply below_drew1 | refine below_set ?_ GE501.out) | exact HB.out)⟩
          · rw [if_neg c6] at H
            have c6b0 : (((rd_T23 l0 x5_1).f0) == a1_0 && (((rd_T23 l0 x5_1).f1) == a1_1 && ((((rd_T23 l0 x5_1).f2).toList) == a1_2.toList))) = false := by simpa using c6
            (try (have c6b1 : decide (((rd_T23 l0 x5_1).f0) = a1_0 && (((rd_T23 l0 x5_1).f1) == a1_1 && ((((rd_T23 l0 x5_1).f2).toList) == a1_2.toList))) = false := by simpa using c6))
            (try (have c6b2 : (((rd_T23 l0 x5_1).f0) == a1_0 && (((rd_T23 l0 x5_1).f1) == a1_1 && ((((rd_T23 l0 x5_1).f2).toList) == a1_2.toList))) = false := by simpa using c6))
            (try (have c6b3 : ¬ (((rd_T23 l0 x5_1).f0) = a1_0 && (((rd_T23 l0 x5_1).f1) == a1_1 && ((((rd_T23 l0 x5_1).f2).toList) == a1_2.toList))) := by simpa using c6))
            clear c6
            have H' := Aside0.mk H
            clear H
            have p502 : 0 ≤ (x5_1 : Int) := of_decide_eq_true (by first | (with_reducible assumption) | assumption)
            have q502 : x5_1 < (l0.length : Int) := of_decide_eq_true (by first | (with_reducible assumption) | assumption)
            obtain ⟨ad502, e502, hx502_0, hx502_1, hx502_2⟩ := at_T23 HR0.out x5_1 p502 q502
            cases e502
            replace hx502_0 := (HB.out.cell (World.block_lt_of_cell? w _ hx502_0)).trans hx502_0
            replace hx502_1 := (HB.out.cell (World.block_lt_of_cell? w _ hx502_1)).trans hx502_1
            replace hx502_2 := (HB.out.cell (World.block_lt_of_cell? w _ hx502_2)).trans hx502_2
            replace p502 := eq_true p502
            replace q502 := eq_true q502
            have hcz8_0 : wr.cell? ⟨gb501, 0, none⟩ = some (.int .i64 a1_0) := (blk_cell BK501.out 0).trans rfl
            have hcz8_1 : wr.cell? ⟨gb501, 1, none⟩ = some (.int .i64 a1_1) := (blk_cell BK501.out 1).trans rfl
            have hcz8_2 : wr.cell? ⟨gb501, 2, none⟩ = some (.string a1_2) := (blk_cell BK501.out 2).trans rfl
            have hfz8_0 := blk_frozen BK501.out 0
            have hfz8_1 := blk_frozen BK501.out 1
            have hfz8_2 := blk_frozen BK501.out 2
            go_wp2
            repeat (go_quiet (fail); try go_wp2)
            go_roundg k1
            case measure => have := HK1.out; omega
            case rel => exact ⟨(wrap64 (x5_1 + 1)), (by first | rfl | (simp; done) | (simp [*]; done)), H', ⟨by have := HK1.out; omega⟩, ⟨by (with_reducible repeat (first | refine blk_drewN ?_ _ | refine blk_drew ?_ | refine blk_alloc ?_ _)); exact BK501.out⟩, ⟨by repeat (first | (with_reducible first | exact HB.out | apply below_alloc | apply pw_below_drewN | apply below_drew1 | refine below_set ?_ GE501.out) | exact HB.out)⟩⟩
        · rw [if_neg c5] at H
          exact absurd H (by simp)
      · rw [if_neg c4] at H
        have c4b0 : decide (x5_1 < (l0.length : Int)) = false := decide_eq_false c4
        clear c4
        obtain rfl := Option.some.inj H
        go_wp2
        repeat (go_quiet (fail); try go_wp2)
        go_ret
        exact ⟨by first | rfl | (simp [errW_none, errW_some] <;> rfl) | (simp [errW_none, errW_some, bne, show ∀ l_ : List UInt8, (l_ == []) = l_.isEmpty from fun l_ => by cases l_ <;> rfl]; done) | (simp [*, errW_none, errW_some] <;> rfl), by repeat (first | (with_reducible first | exact HB.out | apply below_alloc | apply pw_below_drewN | apply below_drew1 | refine below_set ?_ GE501.out) | exact HB.out)⟩

end Go.Proofs.YtnomgmlfagiffaaDoor.T
/- By a program of this session (wip/tools/squeeze.py), out of the translation: hearsayref02_Class. -/
namespace Go.Proofs.YtnomgmlfagiffaaDoor.T
open Go.RowKit Go.Proofs.YtnomgmlfagiffaaDoorW.PrintWords Go.Proofs.YtnomgmlfagiffaaDoorW.PrintLast Go.Proofs.YtnomgmlfagiffaaDoorW.PrintMore
attribute [local go_sem] max2_int min2_int max_two min_two max_three min_three max_four min_four   -- for this text's walks alone
set_option linter.unusedVariables false
set_option linter.unusedSimpArgs false

attribute [local go_sem high] eqA23
abbrev qn := @pw_below_drewN
abbrev qa := @blk_drewN
abbrev qb := @blk_drew
abbrev qc := @blk_alloc
abbrev qd := @below_set
abbrev qe := @below_drew1
abbrev qf := @below_alloc
abbrev ql := @World.block_lt_of_cell?
abbrev qx := @Kd.R_drewN
abbrev qy := @Kd.R_drew
abbrev qz := @Kd.R_alloc
mutual
def hearsayref02_Class.l0 : Nat → List (S23) → List (S23) → List (S23) → Int → Option ((List (S23)))
  | 0, _, _, _, _ => none
  | k + 1, x0, x1, x7, x8 => if x8 < (x7.length : Int) then (hearsayref02_Class.l1 k x0 x1 x7 x8 0) else (some x7)
def hearsayref02_Class.l1 : Nat → List (S23) → List (S23) → List (S23) → Int → Int → Option ((List (S23)))
  | 0, _, _, _, _, _ => none
  | k + 1, x0, x1, x7, x8, x9 => if x9 < (x0.length : Int) then (if 0 ≤ x9 then (if 0 ≤ x8 then (if x8 < (x7.length : Int) then (if (((rd_T23 x0 x9).f0) == ((rd_T23 x7 x8).f0) && (((rd_T23 x0 x9).f1) == ((rd_T23 x7 x8).f1) && ((((rd_T23 x0 x9).f2).toList) == (((rd_T23 x7 x8).f2).toList)))) = true then (if x9 < (x1.length : Int) then ((hearsayref02_holds.f k x7 ((rd_T23 x1 x9).f0) ((rd_T23 x1 x9).f1) ((rd_T23 x1 x9).f2)).bind fun t510 => (hearsayref02_Class.j2 k x0 x1 x7 x8 x9 (!t510))) else (none)) else (hearsayref02_Class.j2 k x0 x1 x7 x8 x9 false)) else (none)) else (none)) else (none)) else (hearsayref02_Class.l0 k x0 x1 x7 (wrap64 (x8 + 1)))
def hearsayref02_Class.j2 : Nat → List (S23) → List (S23) → List (S23) → Int → Int → Bool → Option ((List (S23)))
  | 0, _, _, _, _, _, _ => none
  | k + 1, x0, x1, x7, x8, x9, x41 => if x41 = true then (if 0 ≤ x9 then (if x9 < (x1.length : Int) then (if x7.length < 4398046511104 then ((some (x7 ++ [(⟨(rd_T23 x1 x9).f0, (rd_T23 x1 x9).f1, (rd_T23 x1 x9).f2⟩ : S23)] : List (S23))).bind fun y512 => (if 0 ≤ x8 then (if x8 < (y512.length : Int) then (if (((rd_T23 x1 x9).f0) == ((rd_T23 y512 x8).f0) && (((rd_T23 x1 x9).f1) == ((rd_T23 y512 x8).f1) && ((((rd_T23 x1 x9).f2).toList) == (((rd_T23 y512 x8).f2).toList)))) = true then (if x9 < (x0.length : Int) then ((hearsayref02_holds.f k y512 ((rd_T23 x0 x9).f0) ((rd_T23 x0 x9).f1) ((rd_T23 x0 x9).f2)).bind fun t518 => (if t518 = true then (hearsayref02_Class.l1 k x0 x1 y512 x8 (wrap64 (x9 + 1))) else (if y512.length < 4398046511104 then (hearsayref02_Class.l1 k x0 x1 (y512 ++ [(⟨(rd_T23 x0 x9).f0, (rd_T23 x0 x9).f1, (rd_T23 x0 x9).f2⟩ : S23)]) x8 (wrap64 (x9 + 1))) else (none)))) else (none)) else (hearsayref02_Class.l1 k x0 x1 y512 x8 (wrap64 (x9 + 1)))) else (none)) else (none))) else (none)) else (none)) else (none)) else (if 0 ≤ x9 then (if x9 < (x1.length : Int) then (if 0 ≤ x8 then (if x8 < (x7.length : Int) then (if (((rd_T23 x1 x9).f0) == ((rd_T23 x7 x8).f0) && (((rd_T23 x1 x9).f1) == ((rd_T23 x7 x8).f1) && ((((rd_T23 x1 x9).f2).toList) == (((rd_T23 x7 x8).f2).toList)))) = true then (if x9 < (x0.length : Int) then ((hearsayref02_holds.f k x7 ((rd_T23 x0 x9).f0) ((rd_T23 x0 x9).f1) ((rd_T23 x0 x9).f2)).bind fun t526 => (if t526 = true then (hearsayref02_Class.l1 k x0 x1 x7 x8 (wrap64 (x9 + 1))) else (if x7.length < 4398046511104 then (hearsayref02_Class.l1 k x0 x1 (x7 ++ [(⟨(rd_T23 x0 x9).f0, (rd_T23 x0 x9).f1, (rd_T23 x0 x9).f2⟩ : S23)]) x8 (wrap64 (x9 + 1))) else (none)))) else (none)) else (hearsayref02_Class.l1 k x0 x1 x7 x8 (wrap64 (x9 + 1)))) else (none)) else (none)) else (none)) else (none))
end
def hearsayref02_Class.f (k : Nat) (l0 : List (S23)) (l1 : List (S23)) (a2_0 : Int) (a2_1 : Int) (a2_2 : ByteArray) : Option ((List (S23))) := hearsayref02_Class.l0 k l0 l1 (([(⟨a2_0, a2_1, a2_2⟩ : S23)] : List (S23))) 0
def hearsayref02_Class.T8 : Bool × List (List Nat × List Nat) := (true, [([], []), ([], []), ([0, 1], [0, 1]), ([2], [2]), ([], []), ([], []), ([4, 5], [4, 5]), ([6], [6]), ([3, 7], [3, 7]), ([8], [8]), ([9], [9]), ([9], [9]), ([9], [9]), ([11, 12, 9], [9, 11, 12]), ([13, 9], [9, 13]), ([10, 14, 9, 9], [9, 10, 14]), ([15, 9], [9, 15]), ([9, 16], [9, 16])])
def hearsayref02_Class.B8 : List Nat := [0, 0, 3, 7, 0, 0, 48, 112, 255, 511, 1023, 1023, 1023, 7167, 15359, 32767, 65535, 131071]
theorem hearsayref02_Class.tab8 : rtab .any (opsOf Tryd.f62 8) = hearsayref02_Class.T8 := by kernel_rfl
theorem hearsayref02_Class.bits8 : waitsOk hearsayref02_Class.T8.2 hearsayref02_Class.B8 = true := by kernel_rfl
def hearsayref02_Class.T10 : Bool × List (List Nat × List Nat) := (true, [([], []), ([], []), ([0, 1], [0, 1]), ([2], [2]), ([], []), ([], []), ([4, 5], [4, 5]), ([6], [6]), ([3, 7], [3, 7]), ([8], [8]), ([9], [9]), ([9], [9]), ([9], [9]), ([11, 12, 9], [9, 11, 12]), ([13, 9], [9, 13]), ([10, 14, 9, 9], [9, 10, 14]), ([15, 9], [9, 15]), ([9, 16], [9, 16])])
def hearsayref02_Class.B10 : List Nat := [0, 0, 3, 7, 0, 0, 48, 112, 255, 511, 1023, 1023, 1023, 7167, 15359, 32767, 65535, 131071]
theorem hearsayref02_Class.tab10 : rtab .any (opsOf Tryd.f62 10) = hearsayref02_Class.T10 := by kernel_rfl
theorem hearsayref02_Class.bits10 : waitsOk hearsayref02_Class.T10.2 hearsayref02_Class.B10 = true := by kernel_rfl
end Go.Proofs.YtnomgmlfagiffaaDoor.T
