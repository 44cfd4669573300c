/- slices.SortFunc at rows of digests: the row holds a permutation, rising. -/
import Derived.Test.YtoigoiefnapokaaDoorGKKeys
import Derived.Test.YtoigoiefnapokaaDoorGLay
import Derived.Lib.BytesEntry
import Derived.Shelf.SlSortCmp.KitK
import Derived.Shelf.SlSortCmp.WholeK
import Derived.Shelf.SlSortCmp.NoneTotal
import Derived.Maps.RangeWalk
set_option linter.unusedVariables false
set_option linter.unusedSimpArgs false
namespace Go.Proofs.YtoigoiefnapokaaDoor.T
open Go.RowKit Go.Maps Go.MuLone Go.Shelf Go.Sort Go.Proofs.YtoigoiefnapokaaDoorW.PrintWords Go.Proofs.YtoigoiefnapokaaDoorW.PrintLast
/-! the order -/
theorem cb_self : ∀ a : List UInt8, Lib.compareBytes a a = 0
  | [] => rfl
  | x :: r => by
    unfold Lib.compareBytes
    rw [if_neg (by rw [UInt8.lt_iff_toNat_lt]; omega), if_neg (by rw [UInt8.lt_iff_toNat_lt]; omega), cb_self r]
theorem cb_swap : ∀ a b : List UInt8, Lib.compareBytes b a = - Lib.compareBytes a b
  | [], [] => rfl
  | [], _ :: _ => rfl
  | _ :: _, [] => rfl
  | x :: r, y :: s => by
    have ih := cb_swap r s
    unfold Lib.compareBytes
    simp only [UInt8.lt_iff_toNat_lt]
    by_cases h1 : x.toNat < y.toNat
    · rw [if_neg (by omega), if_pos h1, if_pos h1]
      rfl
    · by_cases h2 : y.toNat < x.toNat
      · rw [if_pos h2, if_neg h1, if_pos h2]
      · rw [if_neg h2, if_neg h1, if_neg h1, if_neg h2, ih]
theorem cb_zero : ∀ a b : List UInt8, Lib.compareBytes a b = 0 → a = b
  | [], [], _ => rfl
  | [], _ :: _, h => by simp [Lib.compareBytes] at h
  | _ :: _, [], h => by simp [Lib.compareBytes] at h
  | x :: r, y :: s, h => by
    unfold Lib.compareBytes at h
    simp only [UInt8.lt_iff_toNat_lt] at h
    by_cases h1 : x.toNat < y.toNat
    · rw [if_pos h1] at h; omega
    · rw [if_neg h1] at h
      by_cases h2 : y.toNat < x.toNat
      · rw [if_pos h2] at h; omega
      · rw [if_neg h2] at h
        rw [cb_zero r s h, UInt8.toNat_inj.1 (show x.toNat = y.toNat by omega)]
theorem cb_trans : ∀ a b c : List UInt8, Lib.compareBytes a b < 0 → Lib.compareBytes b c < 0 → Lib.compareBytes a c < 0
  | [], [], _, h, _ => by simp [Lib.compareBytes] at h
  | [], _ :: _, [], _, h => by simp [Lib.compareBytes] at h
  | [], _ :: _, _ :: _, _, _ => by simp [Lib.compareBytes]
  | _ :: _, [], _, h, _ => by simp [Lib.compareBytes] at h
  | _ :: _, _ :: _, [], _, h => by simp [Lib.compareBytes] at h
  | x :: r, y :: s, z :: t, h, h' => by
    have ih := cb_trans r s t
    unfold Lib.compareBytes at h h' ⊢
    simp only [UInt8.lt_iff_toNat_lt] at h h' ⊢
    by_cases h1 : x.toNat < y.toNat
    · by_cases h2 : y.toNat < z.toNat
      · rw [if_pos (by omega)]; omega
      · rw [if_neg h2] at h'
        by_cases h3 : z.toNat < y.toNat
        · rw [if_pos h3] at h'; omega
        · rw [if_pos (by omega)]; omega
    · rw [if_neg h1] at h
      by_cases h3 : y.toNat < x.toNat
      · rw [if_pos h3] at h; omega
      · rw [if_neg h3] at h
        by_cases h2 : y.toNat < z.toNat
        · rw [if_pos (by omega)]; omega
        · rw [if_neg h2] at h'
          by_cases h4 : z.toNat < y.toNat
          · rw [if_pos h4] at h'; omega
          · rw [if_neg h4] at h'
            rw [if_neg (by omega), if_neg (by omega)]
            exact ih h h'
/-- A digest that is one. -/
abbrev Dg := {d : List Int // IsD d}
instance : Inhabited Dg := ⟨⟨zeroD, zeroD_is⟩⟩
def encD (d : Dg) : List Value := nums .u8 d.1
theorem encD_len (d : Dg) : (encD d).length = 32 := by unfold encD; rw [nums_length, d.2.1]
theorem encD_one (d : Dg) : ∀ v ∈ encD d, v.oneCell' = true := by
  intro v hv
  unfold encD nums at hv
  obtain ⟨x, _, rfl⟩ := List.mem_map.1 hv
  rfl
def cfD (x y : Dg) : Int := Lib.compareBytes (Lib.bytesOf x.1) (Lib.bytesOf y.1)
theorem lb_inj {x y : List Int} (hx : ∀ a ∈ x, 0 ≤ a ∧ a < 256) (hy : ∀ a ∈ y, 0 ≤ a ∧ a < 256) (h : Lib.bytesOf x = Lib.bytesOf y) : x = y := by
  unfold Lib.bytesOf at h
  have h2 := congrArg (List.map fun u : UInt8 => (u.toNat : Int)) h
  rw [List.map_map, List.map_map] at h2
  have e : ∀ l : List Int, (∀ a ∈ l, 0 ≤ a ∧ a < 256) → l.map ((fun u : UInt8 => (u.toNat : Int)) ∘ fun n => UInt8.ofNat n.toNat) = l := by
    intro l hl
    conv => rhs; rw [← List.map_id l]
    refine List.map_congr_left (fun a ha => ?_)
    have := hl a ha
    simp only [Function.comp, UInt8.toNat_ofNat', id]
    omega
  rwa [e x hx, e y hy] at h2
theorem swoD : SWO (ltOf cfD) := by
  refine ⟨fun x => ?_, fun x y z => ?_, fun x y z => ?_⟩
  · simp [ltOf, cfD, cb_self]
  · intro h1 h2
    exact decide_eq_true (cb_trans _ _ _ (of_decide_eq_true h1) (of_decide_eq_true h2))
  · intro g1 g2
    have h1 : ¬ Lib.compareBytes (Lib.bytesOf x.1) (Lib.bytesOf y.1) < 0 := of_decide_eq_false g1
    have h2 : ¬ Lib.compareBytes (Lib.bytesOf y.1) (Lib.bytesOf z.1) < 0 := of_decide_eq_false g2
    refine decide_eq_false (fun h3 => ?_)
    change Lib.compareBytes (Lib.bytesOf x.1) (Lib.bytesOf z.1) < 0 at h3
    have s1 := cb_swap (Lib.bytesOf x.1) (Lib.bytesOf y.1)
    have s2 := cb_swap (Lib.bytesOf y.1) (Lib.bytesOf z.1)
    by_cases e1 : Lib.compareBytes (Lib.bytesOf x.1) (Lib.bytesOf y.1) = 0
    · rw [cb_zero _ _ e1] at h3
      exact h2 h3
    · have h4 : Lib.compareBytes (Lib.bytesOf y.1) (Lib.bytesOf x.1) < 0 := by omega
      have h5 := cb_trans _ _ _ h4 h3
      exact h2 h5
/-! bytes.Compare -/
theorem run_compareSlice {P : Program} (w : World) (a b : Addr) (xs ys : List Int) (n m ca cb : Nat) (hn : xs.length = n) (hm : ys.length = m) (hx : ∀ j x, xs[j]? = some x → w.cell? (a.add j) = some (.int .u8 x)) (hy : ∀ j x, ys[j]? = some x → w.cell? (b.add j) = some (.int .u8 x)) :
    (Extern.BytealgCompare.compare #[.slice (some a) n ca, .slice (some b) m cb]).run P w = .ok (.int .i64 (Lib.compareBytes (Lib.bytesOf xs) (Lib.bytesOf ys))) w := by
  have e : ∀ zs : List Int, (⟨ByteArray.empty.data ++ (Lib.bytesOf zs).toArray⟩ : ByteArray) = ⟨(Lib.bytesOf zs).toArray⟩ := fun zs => by
    apply ByteArray.ext
    show (#[] : Array UInt8) ++ (Lib.bytesOf zs).toArray = (Lib.bytesOf zs).toArray
    simp
  have h1 := Lib.run_loadBytesX (P := P) w xs a .empty hx
  have h2 := Lib.run_loadBytesX (P := P) w ys b .empty hy
  rw [e, hn] at h1
  rw [e, hm] at h2
  change Sem.run P (do pure (goInt (Extern.BytealgCompare.cmp (← Extern.Bytes.bytesOf (.slice (some a) n ca)) (← Extern.Bytes.bytesOf (.slice (some b) m cb))))) w = _
  simp only [Extern.Bytes.bytesOf, Sem.run_bind, Sem.run_pure, h1, h2, Result.andThen]
  rw [Lib.cmp_eq]
  rfl
set_option maxHeartbeats 2000000 in
set_option maxRecDepth 100000 in
theorem bcompare_calls (w : World) (a b : Addr) (xs ys : List Int) (n m ca cb : Nat) (hn : xs.length = n) (hm : ys.length = m) (hx : ∀ j x, xs[j]? = some x → w.cell? (a.add j) = some (.int .u8 x)) (hy : ∀ j x, ys[j]? = some x → w.cell? (b.add j) = some (.int .u8 x)) :
    Calls Tryd.prog 31 #[.slice (some a) n ca, .slice (some b) m cb] w fun e w' => e = .returned (.int .i64 (Lib.compareBytes (Lib.bytesOf xs) (Lib.bytesOf ys))) ∧ w' = w := by
  have hc := run_compareSlice (P := Tryd.prog) w a b xs ys n m ca cb hn hm hx hy
  clear hx hy hn hm
  generalize Lib.compareBytes (Lib.bytesOf xs) (Lib.bytesOf ys) = r at hc ⊢
  go_enter Tryd.func31, Tryd.ntmps31
  go_wp2
  rw [run_callFunc_extern Tryd.func39 (by kernel_rfl) (by kernel_rfl) (by kernel_rfl) (e := Extern.BytealgCompare.compare) (by kernel_rfl), hc]
  simp only [Result.andThen]
  rw [Oper.upon_value]
  go_wp2
  go_ret
  exact ⟨rfl, rfl⟩
/-! the closure -/
theorem num_at {x : List Int} {j : Nat} {v : Int} (h : x[j]? = some v) : (nums IntKind.u8 x)[j]? = some (.int .u8 v) := by
  unfold nums
  rw [List.getElem?_map, h]
  rfl
set_option maxHeartbeats 4000000 in
set_option maxRecDepth 100000 in
theorem byTold_calls (x y : Dg) (W : World) : Calls Tryd.prog 30 #[.agg (encD x).toArray, .agg (encD y).toArray] W fun e w' => e = .returned (.int .i64 (cfD x y)) ∧ ∃ q os', w' = grow (W.drewN q) os' := by
  obtain ⟨x, hx⟩ := x
  obtain ⟨y, hy⟩ := y
  unfold cfD encD
  dsimp only
  have HX := Aside0.mk hx
  have HY := Aside0.mk hy
  have HR := fun (w : World) (a b : Addr) => bcompare_calls w a b x y 32 32 32 32 hx.1 hy.1
  clear hx hy
  generalize Lib.compareBytes (Lib.bytesOf x) (Lib.bytesOf y) = r at HR ⊢
  go_enter Tryd.func30, Tryd.ntmps30
  go_wp2_with (first
    | ((with_reducible refine gate_dst (N := 2) rfl ?_); refine Kd.event_run rfl (v := .pointer (some ⟨W.heap.size, 0, none⟩)) (w1 := W.alloc (.cells (nums .u8 x).toArray 27)) ?hr ?_; (case hr => first | (go_simp; done) | (go_simp; rfl)))
    | ((with_reducible refine gate_dst (N := 3) rfl ?_); refine Kd.event_run rfl (v := .pointer (some ⟨W.heap.size + 1, 0, none⟩)) (w1 := (W.alloc (.cells (nums .u8 x).toArray 27)).alloc (.cells (nums .u8 y).toArray 27)) ?hr ?_; (case hr => first | (go_simp; done) | (go_simp; rfl))))
  have B1 := blk_below (blk_new W (.cells (nums .u8 x).toArray 27 (0, 0))) (below_alloc (Below.refl _ _) (.cells (nums .u8 y).toArray 27 (0, 0)))
  have B2 : ((W.alloc (.cells (nums .u8 x).toArray 27)).alloc (.cells (nums .u8 y).toArray 27)).heap[W.heap.size + 1]? = some (.cells (nums .u8 y).toArray 27 (0, 0)) := by have := blk_new (W.alloc (.cells (nums .u8 x).toArray 27)) (.cells (nums .u8 y).toArray 27 (0, 0)); rwa [show (W.alloc (.cells (nums .u8 x).toArray 27)).heap.size = W.heap.size + 1 by simp] at this
  have P1 := Aside0.mk B1
  have P2 := Aside0.mk B2
  clear B1 B2
  generalize hW2 : (W.alloc (.cells (nums .u8 x).toArray 27)).alloc (.cells (nums .u8 y).toArray 27) = W2 at P1 P2 ⊢
  refine start_ (n := 4) (S := fun w' => Aside0 (w' = W2.drew)) (ds := []) #[false, false, false, false] (by kernel_rfl) rfl rfl ⟨rfl⟩ (fun hHeld => ?_)
  refine pure_ (i := 0) (N := some 5) (v := ?v1) (a' := ?a1) #[true, false, false, false] rfl rfl (by kernel_rfl) (fun _ _ _ h => h) (Or.inl ⟨by rfl, ?hy1⟩) ?ha1 ?hh1
  case hy1 =>
    intro w'
    go_simp
    with_reducible rfl
  case ha1 =>
    simp only [Act.put, List.setIfInBounds_toArray, List.set_cons_zero, List.set_cons_succ]
    rfl
  refine pure_ (i := 1) (N := some 6) (v := ?v2) (a' := ?a2) #[true, true, false, false] rfl rfl (by kernel_rfl) (fun _ _ _ h => h) (Or.inl ⟨by rfl, ?hy2⟩) ?ha2 ?hh2
  case hy2 =>
    intro w'
    go_simp
    with_reducible rfl
  case ha2 =>
    simp only [Act.put, List.setIfInBounds_toArray, List.set_cons_zero, List.set_cons_succ]
    rfl
  refine one_ (i := 2) (N := some 7) #[true, true, true, false] rfl rfl (by kernel_rfl) (by decide) (fun K hK => ?_)
  refine goes_ Tryd.func31 (by kernel_rfl) rfl #[.slice (some ⟨W.heap.size, 0, none⟩) 32 32, .slice (some ⟨W.heap.size + 1, 0, none⟩) 32 32] (by rfl) rfl rfl (by simp only [List.map_toArray, List.map_cons, List.map_nil]; rfl) ?_
  refine (HR _ ⟨W.heap.size, 0, none⟩ ⟨W.heap.size + 1, 0, none⟩ (fun j v hj => by rw [hHeld.out, add_plain]; exact arr_cell (blk_drew P1.out) j (num_at hj)) (fun j v hj => by rw [hHeld.out, add_plain]; exact arr_cell (blk_drew P2.out) j (num_at hj))).mono ?_
  rintro e wv ⟨rfl, rfl⟩
  refine ⟨_, rfl, hK.out _ _ hHeld (fun hHeld => ?_)⟩
  clear hK K
  refine norm_ (a' := ?a3) ?ha3 ?hh3
  case ha3 =>
    show Act.put _ (some 7) _ = _
    simp only [Act.put, List.setIfInBounds_toArray, List.set_cons_zero, List.set_cons_succ]
    rfl
  refine pure_ (i := 3) (N := some 4) (v := ?v4) (a' := ?a4) #[true, true, true, true] rfl rfl (by kernel_rfl) (fun _ _ _ h => h) (Or.inl ⟨by rfl, ?hy4⟩) ?ha4 ?hh4
  case hy4 =>
    intro w'
    go_simp
    with_reducible rfl
  case ha4 =>
    simp only [Act.put, List.setIfInBounds_toArray, List.set_cons_zero, List.set_cons_succ]
    rfl
  refine done_ (by kernel_rfl) ?_
  go_wp2
  go_ret
  exact ⟨rfl, 1, _, by rw [← hW2, alloc_eq_grow, alloc_eq_grow, grow_grow]; rfl⟩
end Go.Proofs.YtoigoiefnapokaaDoor.T
namespace Go.Proofs.YtoigoiefnapokaaDoor.T
open Go.RowKit Go.Maps Go.MuLone Go.Shelf Go.Sort Go.Proofs.YtoigoiefnapokaaDoorW.PrintWords Go.Proofs.YtoigoiefnapokaaDoorW.PrintLast
theorem cmpLaysD (blk off size : Nat) (w : World) : CmpLays Tryd.prog 30 #[] encD 32 cfD blk off size w :=
  fun _ _ _ _ x y => byTold_calls x y _
theorem reps_flatD {R : List Int → List Value → Prop} (hR : ∀ p c, R p c → c = nums .u8 p) {ps : List Dg} {cs : List Value} (h : Reps R 32 (ps.map (·.1)) cs) : cs = (flatK encD 32 ps.toArray).toList := by
  have hl0 : cs.length = ps.length * 32 := by have := h.1; rwa [List.length_map] at this
  have hl : cs.length = (flatK encD 32 ps.toArray).toList.length := by rw [hl0]; simp
  refine List.ext_getElem hl fun t h1 h2 => ?_
  have ht : t < ps.length * 32 := by rw [← hl0]; exact h1
  have hj : t / 32 < ps.length := by omega
  have h3 := hR _ _ (h.2 (t / 32) ps[t / 32].1 (by rw [List.getElem?_map, List.getElem?_eq_getElem hj]; rfl))
  change _ = encD ps[t / 32] at h3
  have h4 : cs[t] = (encD ps[t / 32])[t % 32]'(by rw [encD_len]; omega) := by
    have : ((cs.drop (t / 32 * 32)).take 32)[t % 32]? = (encD ps[t / 32])[t % 32]? := by rw [h3]
    rw [List.getElem?_take_of_lt (by omega), List.getElem?_drop, show t / 32 * 32 + t % 32 = t by omega, List.getElem?_eq_getElem h1, List.getElem?_eq_getElem (by rw [encD_len]; omega)] at this
    exact Option.some.inj this
  have h5 := get_flatK encD 32 ps.toArray t (by simpa using ht)
  rw [getElem!_pos (flatK encD 32 ps.toArray) t (by simpa using ht), getElem!_pos ps.toArray (t / 32) (by simpa using hj)] at h5
  refine h4.trans (Eq.trans ?_ (Eq.trans h5.symm (Array.getElem_toList (xs := flatK encD 32 ps.toArray) (by simpa using ht)).symm))
  simp only [List.getElem_toArray]
  rw [getElem!_pos (encD ps[t / 32]) (t % 32) (by rw [encD_len]; omega)]
theorem flat_repsD {R : List Int → List Value → Prop} (hR : ∀ p : Dg, R p.1 (nums .u8 p.1)) (d : Array Dg) : Reps R 32 (d.toList.map (·.1)) (flatK encD 32 d).toList := by
  refine ⟨by simp, fun j p hj => ?_⟩
  rw [List.getElem?_map] at hj
  obtain ⟨q, hq, rfl⟩ := Option.map_eq_some_iff.1 hj
  obtain ⟨hl, rfl⟩ := List.getElem?_eq_some_iff.1 hq
  have hl' : j < d.size := by simpa using hl
  have : ((flatK encD 32 d).toList.drop (j * 32)).take 32 = encD d.toList[j] := by
    refine List.ext_getElem (by simp [encD_len]; omega) fun t h1 h2 => ?_
    have ht : t < 32 := by rw [encD_len] at h2; exact h2
    rw [List.getElem_take, List.getElem_drop, Array.getElem_toList, ← getElem!_pos, get_flatK encD 32 d _ (by omega), show (j * 32 + t) / 32 = j by omega, show (j * 32 + t) % 32 = t by omega, getElem!_pos d j hl', getElem!_pos _ t (by rw [encD_len]; exact ht)]
    rfl
  rw [this]
  exact hR _
theorem heap_sortedD {w : World} {g n : Nat} {os : Array Obj} {cur : Array Value} {e : TypeId} {fr : Nat × Nat} (d : Array Dg) (hb : w.heap[g]? = some (.cells cur e fr)) :
    (sortWorldK encD 32 w g 0 n d os).heap[g]? = some (.cells (putCells id 0 (flatK encD 32 d) cur) e fr) := by
  have hg : g < w.heap.size := (Array.getElem?_eq_some_iff.1 hb).1
  unfold sortWorldK putRowK
  rw [heap_grow_old _ _ (by simpa using hg)]
  simp [putRow, mapBlock, Sort.ahead, Array.getElem?_modify, hb, onCells]
theorem grownBy_sortedD {w : World} {g n : Nat} {os : Array Obj} (d : Array Dg) : w.grownBy (sortWorldK encD 32 w g 0 n d os) (some g) := by
  unfold sortWorldK putRowK
  refine ⟨rfl, rfl, rfl, by simp, fun k hk hne => ?_⟩
  rw [heap_grow_old _ _ (by simpa using hk)]
  have : g ≠ k := fun e => hne (by rw [e])
  simp [putRow, mapBlock, Sort.ahead, Array.getElem?_modify, this]
theorem take_putCellsD (cur : Array Value) (F : Array Value) (h : F.size ≤ cur.size) : (putCells id 0 F cur).toList.take F.size = F.toList := by
  apply List.ext_getElem?
  intro j
  by_cases hj : j < F.size
  · rw [List.getElem?_take_of_lt hj, Array.getElem?_toList]
    simp [putCells, hj, show j < cur.size by omega]
  · rw [List.getElem?_take_eq_none (by omega), List.getElem?_eq_none (by simp; omega)]
set_option maxHeartbeats 2000000 in
set_option maxRecDepth 100000 in
/-- slices.SortFunc at a row of digests of the call's own. -/
theorem sortD_calls (g cap : Nat) (l : List Dg) (w : World) (base : Nat) (hR : kD.R 27 w base (fun _ => True) (.slice (some ⟨g, 0, none⟩) l.length cap) (l.map (·.1))) (hlen : l.length < 4611686018427387904) :
    Calls Tryd.prog 29 #[.slice (some ⟨g, 0, none⟩) l.length cap, .func (.func 30) #[] #[]] w fun e w' =>
      e = .returned (.tuple #[]) ∧ w.grownBy w' (some g) ∧ ∃ l' : List Dg, l'.Perm l ∧ l'.Pairwise (fun a b => ¬ cfD b a < 0) ∧ kD.R 27 w' base (fun _ => True) (.slice (some ⟨g, 0, none⟩) l.length cap) (l'.map (·.1)) := by
  obtain ⟨_, inner, hown, hreps⟩ := hR
  have hin := reps_flatD (fun p c h => (kD_K (kD.K_of_M h)).2) hreps
  change w.ownsRow base 27 32 _ _ _ at hown
  rw [List.length_map] at hown
  obtain ⟨hil, hown2⟩ := hown
  rcases hown2 with ⟨h0, _⟩ | ⟨g', cap', cur, hv, hbase, hb, hnc, hcm, hcs, htk⟩
  · cases h0
  cases hv
  have hblk : g < w.heap.size := (Array.getElem?_eq_some_iff.1 hb).1
  have hH : HoldsK encD 32 w g 0 l.toArray := by
    intro j hj
    have hj4 : j < l.length * 32 := by simpa using hj
    refine ⟨?_, by simp [World.frozen?, hb]⟩
    have h1 : (cur.toList.take (l.length * 32))[j]? = some ((flatK encD 32 l.toArray)[j]!) := by
      rw [htk, hin, getElem!_pos _ j hj, Array.getElem?_toList]
      exact Array.getElem?_eq_getElem hj
    rw [List.getElem?_take_of_lt hj4, Array.getElem?_toList] at h1
    simp only [World.cell?, hb, Nat.zero_add]
    simp only [Option.isSome_none, Bool.false_eq_true, if_false]
    exact h1
  have eg : ∀ args w, (callFunc 30 args).run Tryd.prog w = .ok (.enter 30 args) w := enters_of Tryd.func30 (by kernel_rfl) rfl
  have hsz : l.toArray.size < 4611686018427387904 := by simpa using hlen
  have hp := AnyQ.slices_SortFunc (P := Tryd.prog) (ρ := Tryd.sfD_ren) Tryd.sfD 32 Tryd.isAgg27 Tryd.sizeOf27 encD encD_len encD_one cfD swoD 30 #[] g 0 cap l.toArray w eg (cmpLaysD g 0 _ w) hH hblk hsz
  simp only [List.size_toArray] at hp
  refine hp.mono ?_
  rintro e w' ⟨rfl, d', n, os, ⟨p1, p2, p3⟩, p4, rfl⟩
  have hl' : d'.toList.length = l.length := by simpa using p1
  refine ⟨rfl, grownBy_sortedD d', d'.toList, ?_, ?_, ?_⟩
  · have e1 : d'.toList.take l.length = d'.toList := by rw [← hl']; exact List.take_length
    simpa [e1] using p3
  · rw [List.pairwise_iff_getElem]
    intro i j hi hj hij
    have h4 := p4 i j (Nat.zero_le _) hij (by simp only [Array.length_toList] at hj; simp only [Array.length_toList] at hl'; omega)
    simp only [Array.length_toList] at hi hj
    rw [getElem!_pos d' i hi, getElem!_pos d' j hj] at h4
    simp only [Array.getElem_toList]
    exact of_decide_eq_false h4
  · have hf : (flatK encD 32 d').size = l.length * 32 := by rw [size_flatK, ← hl']; simp
    have ho : (sortWorldK encD 32 w g 0 n d' os).ownsRow base 27 32 (.slice (some ⟨g, 0, none⟩) l.length cap) (d'.toList.map (·.1)).length (flatK encD 32 d').toList := by
      rw [List.length_map]
      exact ⟨by simp [hf, hl'], .inr ⟨g, cap, _, by rw [hl'], hbase, heap_sortedD d' hb, by rw [hl']; exact hnc, hcm, by simp [putCells, hcs], by rw [hl', ← hf]; exact take_putCellsD cur _ (by rw [hf, hcs]; exact Nat.mul_le_mul_right 32 hnc)⟩⟩
    exact ⟨fun _ _ => trivial, (flatK encD 32 d').toList, ho, flat_repsD (fun p => kD_M p.2.1) d'⟩
/-- .. at no element. -/
theorem sortD_none (v : Value) (w : World) : Calls Tryd.prog 29 #[.slice none 0 0, v] w fun e w' => e = .returned (.tuple #[]) ∧ w' = w :=
  AnyF.slices_SortFunc_none (P := Tryd.prog) (ρ := Tryd.sfD_ren) Tryd.sfD none 0 v w
end Go.Proofs.YtoigoiefnapokaaDoor.T
namespace Go.Proofs.YtoigoiefnapokaaDoor.T
open Go.RowKit Go.Maps Go.MuLone Go.Proofs.YtoigoiefnapokaaDoorW.PrintWords Go.Proofs.YtoigoiefnapokaaDoorW.PrintLast
/-- Every key is a pair's. -/
def OnlyP (D : DataW Value) : Prop := ∀ kl, Maps.has D kl = true → ∃ a, okP a ∧ kl = klP a
theorem onlyP_nil : OnlyP (.map []) := fun kl h => by simp [Maps.has_eq] at h
theorem OnlyP.put {D : DataW Value} (h : OnlyP D) {a : ByteArray × List Int} (ha : okP a) (hm : IsMap D) (v : DataW Value) : OnlyP (D.put (klP a) v) := by
  intro kl hk
  by_cases e : kl = klP a
  · exact ⟨a, ha, e⟩
  · rw [has_put_other e] at hk
    exact h kl hk
theorem key_pair {D : DataW Value} (h : OnlyP D) {v : Value} {kl : Lit} (hk : keyOf Tryd.prog 69 v = some kl) (hh : Maps.has D kl = true) : ∃ (s : ByteArray) (d : Dg), okS s ∧ v = pairV s d.1 ∧ kl = klP (s, d.1) := by
  obtain ⟨⟨s, d⟩, ⟨h1, h2⟩, rfl⟩ := h kl hh
  exact ⟨s, ⟨d, h2⟩, h1, lawP.inj hk (keyP h1 h2), rfl⟩
/-- What was met so far. -/
structure Met (D : DataW Value) (s : ByteArray) (left : Lit → Bool) (ds : List Dg) : Prop where
  sub : ∀ kl, left kl = true → Maps.has D kl = true
  nd : ds.Nodup
  mem : ∀ d : Dg, d ∈ ds ↔ (Maps.has D (klP (s, d.1)) = true ∧ left (klP (s, d.1)) = false)
theorem met_start (D : DataW Value) (s : ByteArray) : Met D s (Maps.has D) [] := ⟨fun _ h => h, List.nodup_nil, fun d => ⟨fun h => by simp at h, fun h => by rw [h.1] at h; cases h.2⟩⟩
theorem met_skip {D : DataW Value} {s : ByteArray} {left : Lit → Bool} {ds : List Dg} (h : Met D s left ds) (ho : okS s) {s' : ByteArray} (ho' : okS s') {d' : Dg} (hne : s' ≠ s) : Met D s (fun z => left z && !z.sameKey (klP (s', d'.1))) ds := by
  refine ⟨fun kl hk => h.sub kl (by simp at hk; exact hk.1), h.nd, fun d => ?_⟩
  have e : (klP (s, d.1)).sameKey (klP (s', d'.1)) = false := sameKey_ne (fun e => hne (congrArg Prod.fst (klP_inj _ _ ⟨ho, d.2⟩ ⟨ho', d'.2⟩ e)).symm)
  rw [h.mem d, e]
  simp
theorem met_take {D : DataW Value} {s : ByteArray} {left : Lit → Bool} {ds : List Dg} (h : Met D s left ds) (ho : okS s) {d' : Dg} (hl : left (klP (s, d'.1)) = true) : Met D s (fun z => left z && !z.sameKey (klP (s, d'.1))) (ds ++ [d']) := by
  refine ⟨fun kl hk => h.sub kl (by simp at hk; exact hk.1), ?_, fun d => ?_⟩
  · refine List.nodup_append.2 ⟨h.nd, by simp, ?_⟩
    intro a ha b hb e
    have hb' : b = d' := by simpa using hb
    subst hb'
    subst e
    have := ((h.mem a).1 ha).2
    rw [hl] at this
    cases this
  · rw [List.mem_append, h.mem d, List.mem_singleton]
    by_cases e : d = d'
    · subst e
      have hs : (klP (s, d.1)).sameKey (klP (s, d.1)) = true := WideAt.sameKey_self (klP_key _ ⟨ho, d.2⟩)
      simp [hs, h.sub _ hl]
    · have e : (klP (s, d.1)).sameKey (klP (s, d'.1)) = false := sameKey_ne (fun e2 => e (Subtype.ext (congrArg Prod.snd (klP_inj _ _ ⟨ho, d.2⟩ ⟨ho, d'.2⟩ e2))))
      rw [e]
      simp_all
theorem met_end {D : DataW Value} {s : ByteArray} {left : Lit → Bool} {ds : List Dg} (h : Met D s left ds) (h0 : ∀ kl, left kl = false) (d : Dg) : d ∈ ds ↔ Maps.has D (klP (s, d.1)) = true := by
  rw [h.mem d, h0]
  simp
theorem ranges_same {P : Program} {k : TypeId} {R : Value → Option (DataW Value × List MemPlace)} {b r n cnt : Nat} {D : DataW Value} {left : Lit → Bool} {w w' : World} (h : w.ranges P k R b r n D left cnt) (hb : w'.heap[b]? = w.heap[b]?) (hr : w'.heap[r]? = w.heap[r]?) : w'.ranges P k R b r n D left cnt := by
  obtain ⟨es, clock, since, seen, c0, h1, F, hs, hD, h2, rest⟩ := h
  exact ⟨es, clock, since, seen, c0, hb.trans h1, F, hs, hD, hr.trans h2, rest⟩
theorem R_cases {w : World} {base : Nat} {ok : Nat → Prop} {v : Value} {ds : List Dg} (h : kD.R 27 w base ok v (ds.map (·.1))) : (v = .slice none 0 0 ∧ ds = []) ∨ ∃ g cap, v = .slice (some ⟨g, 0, none⟩) ds.length cap := by
  obtain ⟨inner, hown⟩ := Kd.R_own h
  change w.ownsRow base 27 32 _ _ _ at hown
  rw [List.length_map] at hown
  obtain ⟨hil, hown2⟩ := hown
  rcases hown2 with ⟨h0, h1⟩ | ⟨g', cap', cur, hv, hbase, hb, hnc, hcm, hcs, htk⟩
  · exact Or.inl ⟨h0, List.length_eq_zero_iff.1 h1⟩
  · exact Or.inr ⟨g', cap', hv⟩
theorem tail_at {w : World} {b : Nat} {s : ByteArray} {d : List Int} {t : TypeId} (h : w.heap[b]? = some (.cells (Value.string s :: nums .u8 d).toArray t (0, 0))) : ∀ j v, (nums IntKind.u8 d)[j]? = some v → w.cell? ((⟨b, 1, none⟩ : Addr).add j) = some v := by
  intro j v hj
  have e : (⟨b, 1, none⟩ : Addr).add j = ⟨b, j + 1, none⟩ := by unfold Addr.add; split <;> simp_all <;> omega
  rw [e]
  exact arr_cell h (j + 1) hj
theorem fresh_ne {r n k : Nat} (h : r < n) (hk : n ≤ k) : k ≠ r := by omega
theorem pair_facts (s : ByteArray) {d : List Int} (h : d.length = 32) : (Tryd.prog.info? 69).map (·.size) = some ((Value.string s :: nums IntKind.u8 d).toArray).size ∧ ((Value.string s :: nums IntKind.u8 d).toArray).size = 33 ∧ ((Value.string s :: nums IntKind.u8 d).toArray).all (·.oneCell') = true := by
  have e : ((Value.string s :: nums IntKind.u8 d).toArray).size = 33 := by rw [List.size_toArray, List.length_cons, nums_length, h]
  refine ⟨by rw [e]; kernel_rfl, e, ?_⟩
  rw [Array.all_eq_true_iff_forall_mem]
  intro v hv
  rw [List.mem_toArray] at hv
  rcases List.mem_cons.1 hv with rfl | hv
  · rfl
  · unfold nums at hv
    obtain ⟨x, _, rfl⟩ := List.mem_map.1 hv
    rfl
theorem loadS_run {o : Oper} {a : Act} {w : World} (x : Operand) (ho : o.op = .load 9 x) (p : Addr) (hx : a.eval x = .pointer (some p)) (s : ByteArray) (hc : w.cell? p = some (.string s)) :
    (execOp a.eval o).run Tryd.prog w = .ok (.value (.string s)) w := by
  have h1 := Tryd.isAgg9 w
  unfold execOp
  simp only [ho, hx]
  simp [Instr.loadAt, Instr.sureAddr, loadVar, h1, go_sem, hc]
set_option maxHeartbeats 8000000 in
set_option maxRecDepth 100000 in
theorem slist_calls (w : World) (x : RV) (base : Nat) (hx : x.At w base 0) (hO : OnlyP x.Ds) (s : ByteArray) (ho : okS s) (hn : x.ns ≤ 100000) :
    Calls Tryd.prog 17 #[.pointer (some ⟨x.b, 0, none⟩), .string s] w fun e w' => ∃ (A : Option Addr) (c : Nat) (ds : List Dg), e = .returned (.slice A ds.length c) ∧ ds.Nodup ∧ (∀ d : Dg, d ∈ ds ↔ Maps.has x.Ds (klP (s, d.1)) = true) ∧ ds.Pairwise (fun a b => ¬ cfD b a < 0) ∧
      kD.R 27 w' w.heap.size (fun _ => True) (.slice A ds.length c) (ds.map (·.1)) ∧ Below w.heap.size w w' := by
  have HX := Aside0.mk hx
  have HO := Aside0.mk ho
  have HOP := Aside0.mk hO
  have HN := Aside0.mk hn
  have hu63 := Tryd.underlying66
  clear hx hO ho hn
  go_enter_defers Tryd.func17, Tryd.ntmps17
  go_wp2_with (first
    | (go_at_call 25; go_loud (refine (lock_free muLib ⟨x.b, 0, none⟩ _ HX.out.c0 (blk_frozen HX.out.blk 0)).mono ?_; rintro e w3 ⟨rfl, hw3⟩; have HW3 := Aside0.mk hw3; have X3 := Aside0.mk (show x.At w3 base 1 by rw [hw3]; exact HX.out.lock 1); have c4 := X3.out.c4; clear hw3))
    | (at_range; go_loud (refine wpList_range_own _ rfl (.tmp 17) 64 rfl 69 27 lawP Tryd.underlying64 RD x.bs x.ns x.Ds rfl X3.out.signed ?_; intro w4 hrg0 hg0 hs0; obtain ⟨r, hr⟩ : ∃ r, w3.heap.size = r := ⟨_, rfl⟩; rw [hr] at hrg0 ⊢; have HRG0 := Aside0.mk hrg0; have HG0 := Aside0.mk hg0; have HSR := Aside0.mk hr; clear hrg0 hg0 hs0 hr)))
  go_frame
  clear c4
  go_loopg [5] x.ns (fun gg s5 wr => ∃ (left : Lit → Bool) (cnt : Nat) (ds : List Dg), Aside0 (cnt ≤ gg ∧ ds.length + cnt ≤ x.ns) ∧ Aside0 (wr.ranges Tryd.prog 69 RD x.bs r x.ns x.Ds left cnt) ∧ Aside0 (kD.R 27 wr w3.heap.size (fun k => k ≠ r) s5 (ds.map (·.1))) ∧ Aside0 (Met x.Ds s left ds) ∧ Aside0 (Below w3.heap.size w3 wr))
  case atStart => exact ⟨_, _, [], ⟨X3.out.signed.size_le, by simpa using X3.out.signed.size_le⟩, HRG0, ⟨Kd.R_nil _ _ _ _ _⟩, ⟨met_start _ _⟩, ⟨HG0.out.os, HG0.out.tape, HG0.out.output, HG0.out.size, fun k hk => HG0.out.block k hk (by simp)⟩⟩
  case round =>
    obtain ⟨left, cnt, ds, HC, HRG, HR, HM, HB⟩ := hrel
    go_wp2_with (at_next; go_loud (refine wpList_next_ranges _ rfl (.tmp 18) rfl 69 lawP RD (fun v : Value => v) (fun v : Value => v) (fun key _ _ => ⟨key, rfl⟩) (fun v _ _ => ⟨v, rfl⟩) x.bs r x.ns x.Ds left cnt rfl HRG.out ?_ ?_))
    · intro hc0 hl0
      have HL0 := Aside0.mk hl0
      clear hc0 hl0
      rcases R_cases HR.out with ⟨rfl, rfl⟩ | ⟨g, cap, rfl⟩
      · have XE := Aside0.mk (X3.out.below HB.out)
        go_wp2_with (go_at_call 29; go_loud ((with_reducible refine (sortD_none _ _).mono ?_); rintro e w6 ⟨rfl, rfl⟩))
        refine leaves_cons (f := 26) (args := #[.pointer (some ⟨x.b, 0, none⟩)]) (by simp) (by simp [go_sem]) ?_
        refine (unlock_deferred muLib ⟨x.b, 0, none⟩ .returning _ XE.out.c0 (blk_frozen XE.out.blk 0)).mono ?_
        rintro e u' w'' ⟨rfl, rfl, rfl⟩
        refine ⟨_, results_tmp rfl _ _ _, none, 0, [], rfl, List.nodup_nil, fun a b => met_end HM.out HL0.out ⟨a, b⟩, List.Pairwise.nil, Kd.R_nil _ _ _ _ _, lock_back (Below.refl _ _) (HW3.out ▸ HB.out) HX.out.blk (XE.out.lock 0).blk⟩
      · have hsc := sortD_calls g cap ds wr w3.heap.size (Kd.R_mono HR.out (fun _ _ => trivial)) (by have := HC.out.2; have := HN.out; omega)
        have HGB := Aside0.mk (Kd.R_base HR.out g (by simp [Value.ownBlock]))
        go_wp2_with (go_at_call 29; go_loud (refine hsc.mono ?_; rintro e w6 ⟨rfl, hg6, l', hp6, hs6, hr6⟩; have HG6 := Aside0.mk hg6; have HP6 := Aside0.mk hp6; have HS6 := Aside0.mk hs6; have HR6 := Aside0.mk hr6; clear hg6 hp6 hs6 hr6 hsc))
        have XE := Aside0.mk ((X3.out.below HB.out).grown X3.out.under HG6.out (fun k hk => by cases hk; exact HGB.out))
        have HB6 := Aside0.mk (pw_below_grown HB.out _ HB.out.size HG6.out (fun k hk => by cases hk; exact HGB.out))
        refine leaves_cons (f := 26) (args := #[.pointer (some ⟨x.b, 0, none⟩)]) (by simp) (by simp [go_sem]) ?_
        refine (unlock_deferred muLib ⟨x.b, 0, none⟩ .returning _ XE.out.c0 (blk_frozen XE.out.blk 0)).mono ?_
        rintro e u' w'' ⟨rfl, rfl, rfl⟩
        have hlen : ds.length = l'.length := HP6.out.length_eq.symm
        have hsz : w.heap.size ≤ w3.heap.size := by rw [HW3.out]; simp
        refine ⟨_, results_tmp rfl _ _ _, some ⟨g, 0, none⟩, cap, l', (by rw [hlen]; rfl), HP6.out.nodup_iff.2 HM.out.nd, fun a b => (HP6.out.mem_iff).trans (met_end HM.out HL0.out ⟨a, b⟩), HS6.out, ?_, lock_back (Below.refl _ _) (HW3.out ▸ HB6.out) HX.out.blk (XE.out.lock 0).blk⟩
        rw [← hlen]
        exact Kd.R_lower (Kd.R_mono (Kd.R_far (Kd.R_bound HR6.out) (fun k hk => by have := blk_lt X3.out.blk; have := hk.2.1; show k ≠ x.b; omega) _) (fun _ _ => trivial)) hsz
    · intro key c kl yd yp w5 cnt5 hkey hlk hv hat hrg5 hlt hg5 hs5 hen
      obtain ⟨s', d', hos', rfl, rfl⟩ := key_pair HOP.out hkey (HM.out.sub _ hlk)
      have HOS := Aside0.mk hos'
      have HLT := Aside0.mk hlt
      have HRG5 := Aside0.mk hrg5
      have HB5 := Aside0.mk (pw_below_grown HB.out _ HB.out.size hg5 (fun k hk => by cases hk; exact Nat.le_of_eq HSR.out))
      have HR5 := Aside0.mk (Kd.R_grown HR.out hg5 (fun k hk e => hk (by cases e; rfl)))
      have HLK0 := Aside0.mk hlk
      clear hkey hv hat hrg5 hlt hg5 hs5 hos' hlk
      have hu69 := Tryd.underlying69
      unfold pairV at hen ⊢
      by_cases hne : s' = s
      · have HNE := Aside0.mk hne
        have HLK := Aside0.mk (show left (klP (s, d'.1)) = true by rw [← hne]; exact HLK0.out)
        have HRG5 := Aside0.mk (show w5.ranges Tryd.prog 69 RD x.bs r x.ns x.Ds (fun z => left z && !z.sameKey (klP (s, d'.1))) cnt5 by rw [← hne]; exact HRG5.out)
        have HE := Aside0.mk (show decide (s' = s) = true from decide_eq_true hne)
        have PF := Aside0.mk (pair_facts s' d'.2.1)
        have HLEN := Aside0.mk (show ((ds.map (·.1)).length + 1) * 32 ≤ 140737488355328 by rw [List.length_map]; have := HC.out.2; have := HN.out; have := HLT.out; omega)
        have PF0 := Aside0.mk (pair_facts ⟨#[]⟩ (d := zeroD) rfl)
        clear hne
        go_wp2_with (first
          | ((with_reducible refine gate_dst (N := 6) rfl ?_); refine box_event ?hg (N := 6) ?hd (cs := (.string ⟨#[]⟩ :: nums .u8 zeroD).toArray) (t := 69) ?hr ?_; (case hd => rfl); (case hg => rfl); (case hr => first | (go_simp; done) | (go_simp; rfl)); intro b6 hb6 w6 hbox hbl; have B6 := Aside0.mk hbox; have G6 := Aside0.mk (show w5.heap.size ≤ b6 by omega); have L6 := Aside0.mk hbl; clear hbox hbl hb6)
          | (refine put_row rfl 69 (.tmp 6) (.tmp 22) rfl b6 (.string s' :: nums .u8 d'.1).toArray rfl rfl 69 _ B6.out PF.out.1 (by rw [PF.out.2.1, PF0.out.2.1]) PF.out.2.2 ?_; have B7 := Aside0.mk (setRow_heap _ b6 _ (.string s' :: nums .u8 d'.1).toArray _ _ B6.out); have E7 := Aside0.mk (fun c => setRow_other w6 b6 c (.string s' :: nums .u8 d'.1).toArray); have HB7 := Aside0.mk (below_row (below_step HB5.out L6.out) (Nat.le_trans HB5.out.size G6.out) (.string s' :: nums .u8 d'.1).toArray); (obtain ⟨w7, hw7⟩ : ∃ z, w6.setRow b6 (.string s' :: nums .u8 d'.1).toArray = z := ⟨_, rfl⟩); rw [hw7] at B7 E7 HB7 ⊢; clear hw7; have HR7 := Aside0.mk (Kd.R_mono (Kd.R_step (Kd.R_below (Kd.R_elderB HR5.out b6 G6.out) L6.out) (fun k hk _ => E7.out k hk.2)) (fun k hk => hk.1)); have HRG7 := Aside0.mk (ranges_same (ranges_same HRG5.out (L6.out.block _ HRG5.out.owns.lt) (L6.out.block _ HRG5.out.lt)) (E7.out _ (by have := HRG5.out.owns.lt; have := G6.out; omega)) (E7.out _ (by have := HRG5.out.lt; have := G6.out; omega))); have HRL7 := Aside0.mk HRG7.out.lt)
          | ((with_reducible refine gate_dst (N := 24) rfl ?_); go_loud (refine Kd.event_run rfl (loadS_run (.tmp 23) rfl _ rfl s' (arr_cell B7.out 0 rfl)) ?_))
          | ((with_reducible refine gate_dst (N := 26) rfl ?_); go_loud (refine Kd.event_run rfl (eqlS_run _ _ (.tmp 24) (.tmp 25) rfl rfl _ _ rfl rfl true HE.out) ?_))
          | ((with_reducible refine gate_dst (N := 29) rfl ?_); go_loud (refine Kd.event_run rfl (loadD_run (.tmp 28) rfl ⟨b6, 1, none⟩ rfl d'.1 d'.2.1 (tail_at B7.out)) ?_))
          | ((with_reducible refine gate_dst (N := 30) rfl ?_); go_loud (refine Kd.event_run rfl (bslD_run (.tmp 29) d'.1 d'.2.1 rfl rfl) ?_))
          | ((with_reducible refine gate_builtin (b := .append) (xs := #[.tmp 27, .tmp 30]) rfl ?_); at_builtin; go_loud (refine Kd.R_append kD (w0 := w3) w3.heap.size rfl (.tmp 27) (.tmp 30) 36 27 (digV zeroD) 32 rfl Tryd.underlying36 infoDg (by rfl) (by decide) (by decide) u5 (ds.map (·.1)) d'.1 (nums .u8 d'.1) (fun k => k ≠ r) (fun _ => False) rfl rfl (kD_M d'.2.1) (fun k hk => hk.elim) ?e5 ?e6 ?e7 ?e8 ?e9 ?_; (case e5 => exact fun k hk => fresh_ne HRL7.out hk); (case e6 => exact HR7.out); (case e7 => exact HB7.out); (case e8 => exact HB7.out.size); (case e9 => exact HLEN.out); intro v9 w9 hr9 hb9 hg9 _; have HR9 := Aside0.mk hr9; have HB9 := Aside0.mk hb9; have HG9 := Aside0.mk hg9; clear hr9 hb9 hg9))
          )
        go_roundg cnt5
        case measure => have := HC.out.1; have := HLT.out; omega
        case rel => exact ⟨_, cnt5, ds ++ [d'], ⟨Nat.le_refl _, by rw [List.length_append, List.length_singleton]; have := HC.out.2; have := HLT.out; omega⟩, ⟨ranges_same HRG7.out (HG9.out.block _ HRG7.out.owns.lt (fun e => by have := Kd.R_base HR7.out _ e.symm; have := X3.out.signed.lt; omega)) (HG9.out.block _ HRG7.out.lt (fun e => HR7.out.1 _ e.symm rfl))⟩, ⟨by rw [List.map_append]; exact HR9.out⟩, ⟨met_take HM.out HO.out HLK.out⟩, HB9⟩
      · have HNE := Aside0.mk hne
        have HE := Aside0.mk (show decide (s' = s) = false from decide_eq_false hne)
        have PF := Aside0.mk (pair_facts s' d'.2.1)
        have PF0 := Aside0.mk (pair_facts ⟨#[]⟩ (d := zeroD) rfl)
        clear hne
        go_wp2_with (first
          | ((with_reducible refine gate_dst (N := 6) rfl ?_); refine box_event ?hg (N := 6) ?hd (cs := (.string ⟨#[]⟩ :: nums .u8 zeroD).toArray) (t := 69) ?hr ?_; (case hd => rfl); (case hg => rfl); (case hr => first | (go_simp; done) | (go_simp; rfl)); intro b6 hb6 w6 hbox hbl; have B6 := Aside0.mk hbox; have G6 := Aside0.mk (show w5.heap.size ≤ b6 by omega); have L6 := Aside0.mk hbl; clear hbox hbl hb6)
          | (refine put_row rfl 69 (.tmp 6) (.tmp 22) rfl b6 (.string s' :: nums .u8 d'.1).toArray rfl rfl 69 _ B6.out PF.out.1 (by rw [PF.out.2.1, PF0.out.2.1]) PF.out.2.2 ?_; have B7 := Aside0.mk (setRow_heap _ b6 _ (.string s' :: nums .u8 d'.1).toArray _ _ B6.out); have E7 := Aside0.mk (fun c => setRow_other w6 b6 c (.string s' :: nums .u8 d'.1).toArray); have HB7 := Aside0.mk (below_row (below_step HB5.out L6.out) (Nat.le_trans HB5.out.size G6.out) (.string s' :: nums .u8 d'.1).toArray); (obtain ⟨w7, hw7⟩ : ∃ z, w6.setRow b6 (.string s' :: nums .u8 d'.1).toArray = z := ⟨_, rfl⟩); rw [hw7] at B7 E7 HB7 ⊢; clear hw7; have HR7 := Aside0.mk (Kd.R_mono (Kd.R_step (Kd.R_below (Kd.R_elderB HR5.out b6 G6.out) L6.out) (fun k hk _ => E7.out k hk.2)) (fun k hk => hk.1)); have HRG7 := Aside0.mk (ranges_same (ranges_same HRG5.out (L6.out.block _ HRG5.out.owns.lt) (L6.out.block _ HRG5.out.lt)) (E7.out _ (by have := HRG5.out.owns.lt; have := G6.out; omega)) (E7.out _ (by have := HRG5.out.lt; have := G6.out; omega))); have HRL7 := Aside0.mk HRG7.out.lt)
          | ((with_reducible refine gate_dst (N := 24) rfl ?_); go_loud (refine Kd.event_run rfl (loadS_run (.tmp 23) rfl _ rfl s' (arr_cell B7.out 0 rfl)) ?_))
          | ((with_reducible refine gate_dst (N := 26) rfl ?_); go_loud (refine Kd.event_run rfl (eqlS_run _ _ (.tmp 24) (.tmp 25) rfl rfl _ _ rfl rfl false HE.out) ?_))
          )
        go_roundg cnt5
        case measure => have := HC.out.1; have := HLT.out; omega
        case rel => exact ⟨_, cnt5, ds, ⟨Nat.le_refl _, by have := HC.out.2; have := HLT.out; omega⟩, HRG7, HR7, ⟨met_skip HM.out HO.out HOS.out HNE.out⟩, HB7⟩
end Go.Proofs.YtoigoiefnapokaaDoor.T
