/- slices.SortFunc at rows of digests: the row holds a permutation, rising. -/
import Derived.Test.YtoigoiefnapokaaDoorGKKeys
import Derived.Test.YtoigoiefnapokaaDoorGLay
import Derived.Lib.BytesEntry
import Derived.Shelf.SlSortCmp.KitK
set_option linter.unusedVariables false
set_option linter.unusedSimpArgs false
namespace Go.Proofs.YtoigoiefnapokaaDoor.T
open Go.RowKit Go.Maps Go.MuLone Go.Shelf Go.Sort Go.Proofs.YtoigoiefnapokaaDoorW.PrintWords Go.Proofs.YtoigoiefnapokaaDoorW.PrintLast
/-! the order -/
theorem cb_self : ∀ a : List UInt8, Lib.compareBytes a a = 0
  | [] => rfl
  | x :: r => by
    unfold Lib.compareBytes
    rw [if_neg (by rw [UInt8.lt_iff_toNat_lt]; omega), if_neg (by rw [UInt8.lt_iff_toNat_lt]; omega), cb_self r]
theorem cb_swap : ∀ a b : List UInt8, Lib.compareBytes b a = - Lib.compareBytes a b
  | [], [] => rfl
  | [], _ :: _ => rfl
  | _ :: _, [] => rfl
  | x :: r, y :: s => by
    have ih := cb_swap r s
    unfold Lib.compareBytes
    simp only [UInt8.lt_iff_toNat_lt]
    by_cases h1 : x.toNat < y.toNat
    · rw [if_neg (by omega), if_pos h1, if_pos h1]
      rfl
    · by_cases h2 : y.toNat < x.toNat
      · rw [if_pos h2, if_neg h1, if_pos h2]
      · rw [if_neg h2, if_neg h1, if_neg h1, if_neg h2, ih]
theorem cb_zero : ∀ a b : List UInt8, Lib.compareBytes a b = 0 → a = b
  | [], [], _ => rfl
  | [], _ :: _, h => by simp [Lib.compareBytes] at h
  | _ :: _, [], h => by simp [Lib.compareBytes] at h
  | x :: r, y :: s, h => by
    unfold Lib.compareBytes at h
    simp only [UInt8.lt_iff_toNat_lt] at h
    by_cases h1 : x.toNat < y.toNat
    · rw [if_pos h1] at h; omega
    · rw [if_neg h1] at h
      by_cases h2 : y.toNat < x.toNat
      · rw [if_pos h2] at h; omega
      · rw [if_neg h2] at h
        rw [cb_zero r s h, UInt8.toNat_inj.1 (show x.toNat = y.toNat by omega)]
theorem cb_trans : ∀ a b c : List UInt8, Lib.compareBytes a b < 0 → Lib.compareBytes b c < 0 → Lib.compareBytes a c < 0
  | [], [], _, h, _ => by simp [Lib.compareBytes] at h
  | [], _ :: _, [], _, h => by simp [Lib.compareBytes] at h
  | [], _ :: _, _ :: _, _, _ => by simp [Lib.compareBytes]
  | _ :: _, [], _, h, _ => by simp [Lib.compareBytes] at h
  | _ :: _, _ :: _, [], _, h => by simp [Lib.compareBytes] at h
  | x :: r, y :: s, z :: t, h, h' => by
    have ih := cb_trans r s t
    unfold Lib.compareBytes at h h' ⊢
    simp only [UInt8.lt_iff_toNat_lt] at h h' ⊢
    by_cases h1 : x.toNat < y.toNat
    · by_cases h2 : y.toNat < z.toNat
      · rw [if_pos (by omega)]; omega
      · rw [if_neg h2] at h'
        by_cases h3 : z.toNat < y.toNat
        · rw [if_pos h3] at h'; omega
        · rw [if_pos (by omega)]; omega
    · rw [if_neg h1] at h
      by_cases h3 : y.toNat < x.toNat
      · rw [if_pos h3] at h; omega
      · rw [if_neg h3] at h
        by_cases h2 : y.toNat < z.toNat
        · rw [if_pos (by omega)]; omega
        · rw [if_neg h2] at h'
          by_cases h4 : z.toNat < y.toNat
          · rw [if_pos h4] at h'; omega
          · rw [if_neg h4] at h'
            rw [if_neg (by omega), if_neg (by omega)]
            exact ih h h'
/-- A digest that is one. -/
abbrev Dg := {d : List Int // IsD d}
instance : Inhabited Dg := ⟨⟨zeroD, zeroD_is⟩⟩
def encD (d : Dg) : List Value := nums .u8 d.1
theorem encD_len (d : Dg) : (encD d).length = 32 := by unfold encD; rw [nums_length, d.2.1]
theorem encD_one (d : Dg) : ∀ v ∈ encD d, v.oneCell' = true := by
  intro v hv
  unfold encD nums at hv
  obtain ⟨x, _, rfl⟩ := List.mem_map.1 hv
  rfl
def cfD (x y : Dg) : Int := Lib.compareBytes (Lib.bytesOf x.1) (Lib.bytesOf y.1)
theorem lb_inj {x y : List Int} (hx : ∀ a ∈ x, 0 ≤ a ∧ a < 256) (hy : ∀ a ∈ y, 0 ≤ a ∧ a < 256) (h : Lib.bytesOf x = Lib.bytesOf y) : x = y := by
  unfold Lib.bytesOf at h
  have h2 := congrArg (List.map fun u : UInt8 => (u.toNat : Int)) h
  rw [List.map_map, List.map_map] at h2
  have e : ∀ l : List Int, (∀ a ∈ l, 0 ≤ a ∧ a < 256) → l.map ((fun u : UInt8 => (u.toNat : Int)) ∘ fun n => UInt8.ofNat n.toNat) = l := by
    intro l hl
    conv => rhs; rw [← List.map_id l]
    refine List.map_congr_left (fun a ha => ?_)
    have := hl a ha
    simp only [Function.comp, UInt8.toNat_ofNat', id]
    omega
  rwa [e x hx, e y hy] at h2
theorem swoD : SWO (ltOf cfD) := by
  refine ⟨fun x => ?_, fun x y z => ?_, fun x y z => ?_⟩
  · simp [ltOf, cfD, cb_self]
  · intro h1 h2
    exact decide_eq_true (cb_trans _ _ _ (of_decide_eq_true h1) (of_decide_eq_true h2))
  · intro g1 g2
    have h1 : ¬ Lib.compareBytes (Lib.bytesOf x.1) (Lib.bytesOf y.1) < 0 := of_decide_eq_false g1
    have h2 : ¬ Lib.compareBytes (Lib.bytesOf y.1) (Lib.bytesOf z.1) < 0 := of_decide_eq_false g2
    refine decide_eq_false (fun h3 => ?_)
    change Lib.compareBytes (Lib.bytesOf x.1) (Lib.bytesOf z.1) < 0 at h3
    have s1 := cb_swap (Lib.bytesOf x.1) (Lib.bytesOf y.1)
    have s2 := cb_swap (Lib.bytesOf y.1) (Lib.bytesOf z.1)
    by_cases e1 : Lib.compareBytes (Lib.bytesOf x.1) (Lib.bytesOf y.1) = 0
    · rw [cb_zero _ _ e1] at h3
      exact h2 h3
    · have h4 : Lib.compareBytes (Lib.bytesOf y.1) (Lib.bytesOf x.1) < 0 := by omega
      have h5 := cb_trans _ _ _ h4 h3
      exact h2 h5
/-! bytes.Compare -/
theorem run_compareSlice {P : Program} (w : World) (a b : Addr) (xs ys : List Int) (n m ca cb : Nat) (hn : xs.length = n) (hm : ys.length = m) (hx : ∀ j x, xs[j]? = some x → w.cell? (a.add j) = some (.int .u8 x)) (hy : ∀ j x, ys[j]? = some x → w.cell? (b.add j) = some (.int .u8 x)) :
    (Extern.BytealgCompare.compare #[.slice (some a) n ca, .slice (some b) m cb]).run P w = .ok (.int .i64 (Lib.compareBytes (Lib.bytesOf xs) (Lib.bytesOf ys))) w := by
  have e : ∀ zs : List Int, (⟨ByteArray.empty.data ++ (Lib.bytesOf zs).toArray⟩ : ByteArray) = ⟨(Lib.bytesOf zs).toArray⟩ := fun zs => by
    apply ByteArray.ext
    show (#[] : Array UInt8) ++ (Lib.bytesOf zs).toArray = (Lib.bytesOf zs).toArray
    simp
  have h1 := Lib.run_loadBytesX (P := P) w xs a .empty hx
  have h2 := Lib.run_loadBytesX (P := P) w ys b .empty hy
  rw [e, hn] at h1
  rw [e, hm] at h2
  change Sem.run P (do pure (goInt (Extern.BytealgCompare.cmp (← Extern.Bytes.bytesOf (.slice (some a) n ca)) (← Extern.Bytes.bytesOf (.slice (some b) m cb))))) w = _
  simp only [Extern.Bytes.bytesOf, Sem.run_bind, Sem.run_pure, h1, h2, Result.andThen]
  rw [Lib.cmp_eq]
  rfl
set_option maxHeartbeats 2000000 in
set_option maxRecDepth 100000 in
theorem bcompare_calls (w : World) (a b : Addr) (xs ys : List Int) (n m ca cb : Nat) (hn : xs.length = n) (hm : ys.length = m) (hx : ∀ j x, xs[j]? = some x → w.cell? (a.add j) = some (.int .u8 x)) (hy : ∀ j x, ys[j]? = some x → w.cell? (b.add j) = some (.int .u8 x)) :
    Calls Tryd.prog 31 #[.slice (some a) n ca, .slice (some b) m cb] w fun e w' => e = .returned (.int .i64 (Lib.compareBytes (Lib.bytesOf xs) (Lib.bytesOf ys))) ∧ w' = w := by
  have hc := run_compareSlice (P := Tryd.prog) w a b xs ys n m ca cb hn hm hx hy
  clear hx hy hn hm
  generalize Lib.compareBytes (Lib.bytesOf xs) (Lib.bytesOf ys) = r at hc ⊢
  go_enter Tryd.func31, Tryd.ntmps31
  go_wp2
  rw [run_callFunc_extern Tryd.func39 (by kernel_rfl) (by kernel_rfl) (by kernel_rfl) (e := Extern.BytealgCompare.compare) (by kernel_rfl), hc]
  simp only [Result.andThen]
  rw [Oper.upon_value]
  go_wp2
  go_ret
  exact ⟨rfl, rfl⟩
/-! the closure -/
theorem num_at {x : List Int} {j : Nat} {v : Int} (h : x[j]? = some v) : (nums IntKind.u8 x)[j]? = some (.int .u8 v) := by
  unfold nums
  rw [List.getElem?_map, h]
  rfl
set_option maxHeartbeats 4000000 in
set_option maxRecDepth 100000 in
theorem byTold_calls (x y : Dg) (W : World) : Calls Tryd.prog 30 #[.agg (encD x).toArray, .agg (encD y).toArray] W fun e w' => e = .returned (.int .i64 (cfD x y)) ∧ ∃ q os', w' = grow (W.drewN q) os' := by
  obtain ⟨x, hx⟩ := x
  obtain ⟨y, hy⟩ := y
  unfold cfD encD
  dsimp only
  have HX := Aside0.mk hx
  have HY := Aside0.mk hy
  have HR := fun (w : World) (a b : Addr) => bcompare_calls w a b x y 32 32 32 32 hx.1 hy.1
  clear hx hy
  generalize Lib.compareBytes (Lib.bytesOf x) (Lib.bytesOf y) = r at HR ⊢
  go_enter Tryd.func30, Tryd.ntmps30
  go_wp2_with (first
    | ((with_reducible refine gate_dst (N := 2) rfl ?_); refine Kd.event_run rfl (v := .pointer (some ⟨W.heap.size, 0, none⟩)) (w1 := W.alloc (.cells (nums .u8 x).toArray 27)) ?hr ?_; (case hr => first | (go_simp; done) | (go_simp; rfl)))
    | ((with_reducible refine gate_dst (N := 3) rfl ?_); refine Kd.event_run rfl (v := .pointer (some ⟨W.heap.size + 1, 0, none⟩)) (w1 := (W.alloc (.cells (nums .u8 x).toArray 27)).alloc (.cells (nums .u8 y).toArray 27)) ?hr ?_; (case hr => first | (go_simp; done) | (go_simp; rfl))))
  have B1 := blk_below (blk_new W (.cells (nums .u8 x).toArray 27 (0, 0))) (below_alloc (Below.refl _ _) (.cells (nums .u8 y).toArray 27 (0, 0)))
  have B2 : ((W.alloc (.cells (nums .u8 x).toArray 27)).alloc (.cells (nums .u8 y).toArray 27)).heap[W.heap.size + 1]? = some (.cells (nums .u8 y).toArray 27 (0, 0)) := by have := blk_new (W.alloc (.cells (nums .u8 x).toArray 27)) (.cells (nums .u8 y).toArray 27 (0, 0)); rwa [show (W.alloc (.cells (nums .u8 x).toArray 27)).heap.size = W.heap.size + 1 by simp] at this
  have P1 := Aside0.mk B1
  have P2 := Aside0.mk B2
  clear B1 B2
  generalize hW2 : (W.alloc (.cells (nums .u8 x).toArray 27)).alloc (.cells (nums .u8 y).toArray 27) = W2 at P1 P2 ⊢
  refine start_ (n := 4) (S := fun w' => Aside0 (w' = W2.drew)) (ds := []) #[false, false, false, false] (by kernel_rfl) rfl rfl ⟨rfl⟩ (fun hHeld => ?_)
  refine pure_ (i := 0) (N := some 5) (v := ?v1) (a' := ?a1) #[true, false, false, false] rfl rfl (by kernel_rfl) (fun _ _ _ h => h) (Or.inl ⟨by rfl, ?hy1⟩) ?ha1 ?hh1
  case hy1 =>
    intro w'
    go_simp
    with_reducible rfl
  case ha1 =>
    simp only [Act.put, List.setIfInBounds_toArray, List.set_cons_zero, List.set_cons_succ]
    rfl
  refine pure_ (i := 1) (N := some 6) (v := ?v2) (a' := ?a2) #[true, true, false, false] rfl rfl (by kernel_rfl) (fun _ _ _ h => h) (Or.inl ⟨by rfl, ?hy2⟩) ?ha2 ?hh2
  case hy2 =>
    intro w'
    go_simp
    with_reducible rfl
  case ha2 =>
    simp only [Act.put, List.setIfInBounds_toArray, List.set_cons_zero, List.set_cons_succ]
    rfl
  refine one_ (i := 2) (N := some 7) #[true, true, true, false] rfl rfl (by kernel_rfl) (by decide) (fun K hK => ?_)
  refine goes_ Tryd.func31 (by kernel_rfl) rfl #[.slice (some ⟨W.heap.size, 0, none⟩) 32 32, .slice (some ⟨W.heap.size + 1, 0, none⟩) 32 32] (by rfl) rfl rfl (by simp only [List.map_toArray, List.map_cons, List.map_nil]; rfl) ?_
  refine (HR _ ⟨W.heap.size, 0, none⟩ ⟨W.heap.size + 1, 0, none⟩ (fun j v hj => by rw [hHeld.out, add_plain]; exact arr_cell (blk_drew P1.out) j (num_at hj)) (fun j v hj => by rw [hHeld.out, add_plain]; exact arr_cell (blk_drew P2.out) j (num_at hj))).mono ?_
  rintro e wv ⟨rfl, rfl⟩
  refine ⟨_, rfl, hK.out _ _ hHeld (fun hHeld => ?_)⟩
  clear hK K
  refine norm_ (a' := ?a3) ?ha3 ?hh3
  case ha3 =>
    show Act.put _ (some 7) _ = _
    simp only [Act.put, List.setIfInBounds_toArray, List.set_cons_zero, List.set_cons_succ]
    rfl
  refine pure_ (i := 3) (N := some 4) (v := ?v4) (a' := ?a4) #[true, true, true, true] rfl rfl (by kernel_rfl) (fun _ _ _ h => h) (Or.inl ⟨by rfl, ?hy4⟩) ?ha4 ?hh4
  case hy4 =>
    intro w'
    go_simp
    with_reducible rfl
  case ha4 =>
    simp only [Act.put, List.setIfInBounds_toArray, List.set_cons_zero, List.set_cons_succ]
    rfl
  refine done_ (by kernel_rfl) ?_
  go_wp2
  go_ret
  exact ⟨rfl, 1, _, by rw [← hW2, alloc_eq_grow, alloc_eq_grow, grow_grow]; rfl⟩
end Go.Proofs.YtoigoiefnapokaaDoor.T
