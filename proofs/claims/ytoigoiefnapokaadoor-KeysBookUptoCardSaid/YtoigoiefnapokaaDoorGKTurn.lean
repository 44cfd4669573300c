/- The walk of (*digest.state).turn. -/
import Derived.Test.YtoigoiefnapokaaDoorGKSched
set_option linter.unusedVariables false
set_option linter.unusedSimpArgs false
namespace Go.Proofs.YtoigoiefnapokaaDoor.T
open Go.RowKit Go.Proofs.YtoigoiefnapokaaDoorW.PrintWords Go.Proofs.YtoigoiefnapokaaDoorW.PrintLast
theorem right_calls3 (x n : Int) (w : World) (h : n ∈ ([2, 6, 7, 11, 13, 17, 18, 19, 22, 25] : List Int)) :
    Calls Tryd.prog 41 #[.int .u32 x, .int .i64 n] w fun e w' => e = .returned (.int .u32 (rotf x n)) ∧ ∃ nd, w' = w.drewN nd :=
  (right_calls x n w (right_in n h).1 (right_in n h).2).mono fun e w' h => by
    obtain ⟨he, nd, rfl⟩ := h
    exact ⟨he, nd, rfl⟩
def roundsL : List Int := [1116352408, 1899447441, 3049323471, 3921009573, 961987163, 1508970993, 2453635748, 2870763221, 3624381080, 310598401, 607225278, 1426881987, 1925078388, 2162078206, 2614888103, 3248222580, 3835390401, 4022224774, 264347078, 604807628, 770255983, 1249150122, 1555081692, 1996064986, 2554220882, 2821834349, 2952996808, 3210313671, 3336571891, 3584528711, 113926993, 338241895, 666307205, 773529912, 1294757372, 1396182291, 1695183700, 1986661051, 2177026350, 2456956037, 2730485921, 2820302411, 3259730800, 3345764771, 3516065817, 3600352804, 4094571909, 275423344, 430227734, 506948616, 659060556, 883997877, 958139571, 1322822218, 1537002063, 1747873779, 1955562222, 2024104815, 2227730452, 2361852424, 2428436474, 2756734187, 3204031479, 3329325298]
/-- The listed variable digest.rounds holds what its initialiser lays. -/
def LaidR (w : World) : Prop := ∀ j, j < 64 → w.cell? ⟨1, j, none⟩ = some (.int .u32 (roundsL.getD j 0))
theorem LaidR.up {w W : World} (h : LaidR w) (hb : Below w.heap.size w W) : LaidR W := fun j hj => pw_cell_below hb (h j hj)
/-- A hasher's cells: the eight words, the block's bytes, how many came. -/
def hcells (s part : List Int) (n : Int) : List Value := nums .u32 s ++ (nums .u8 part ++ [.int .i64 n])
section
variable {s part : List Int} {n : Int}
theorem hc_len (hs : s.length = 8) (hp : part.length = 64) : (hcells s part n).length = 73 := by simp [hcells, nums_length, hs, hp]
theorem hc_s (hs : s.length = 8) (i : Nat) (hi : i < 8) : (hcells s part n)[i]? = some (.int .u32 (s.getD i 0)) := by
  unfold hcells
  rw [List.getElem?_append_left (by rw [nums_length]; omega)]
  exact nums_get i (by omega)
theorem hc_p (hs : s.length = 8) (hp : part.length = 64) (i : Nat) (hi : i < 64) : (hcells s part n)[8 + i]? = some (.int .u8 (part.getD i 0)) := by
  unfold hcells
  rw [List.getElem?_append_right (by rw [nums_length]; omega), nums_length, hs, Nat.add_sub_cancel_left, List.getElem?_append_left (by rw [nums_length]; omega)]
  exact nums_get i (by omega)
theorem hc_n (hs : s.length = 8) (hp : part.length = 64) : (hcells s part n)[72]? = some (.int .i64 n) := by
  unfold hcells
  rw [List.getElem?_append_right (by rw [nums_length]; omega), nums_length, hs, List.getElem?_append_right (by rw [nums_length]; omega), nums_length, hp]
  rfl
theorem hc_set_s (hs : s.length = 8) (i : Nat) (hi : i < 8) (v : Int) : (hcells s part n).set i (.int .u32 v) = hcells (s.set i v) part n := by
  unfold hcells
  rw [List.set_append_left _ _ (by rw [nums_length]; omega), nums_put]
theorem hc_set_n (hs : s.length = 8) (hp : part.length = 64) (v : Int) : (hcells s part n).set 72 (.int .i64 v) = hcells s part v := by
  unfold hcells
  rw [List.set_append_right _ _ (by rw [nums_length]; omega), nums_length, hs, List.set_append_right _ _ (by rw [nums_length]; omega), nums_length, hp]
  rfl
end
set_option maxRecDepth 100000 in
theorem idx0 (a b c d e f g k : Int) (W : World) : (Instr.index 75 (.agg #[.int .u32 a, .int .u32 b, .int .u32 c, .int .u32 d, .int .u32 e, .int .u32 f, .int .u32 g, .int .u32 k]) (.int .i64 0)).run Tryd.prog W = .ok (.int .u32 a) W := by
  first | (simp [Instr.index, go_sem]; done) | (go_simp; done) | (with_unfolding_all rfl)
set_option maxRecDepth 100000 in
theorem idx1 (a b c d e f g k : Int) (W : World) : (Instr.index 75 (.agg #[.int .u32 a, .int .u32 b, .int .u32 c, .int .u32 d, .int .u32 e, .int .u32 f, .int .u32 g, .int .u32 k]) (.int .i64 1)).run Tryd.prog W = .ok (.int .u32 b) W := by
  first | (simp [Instr.index, go_sem]; done) | (go_simp; done) | (with_unfolding_all rfl)
set_option maxRecDepth 100000 in
theorem idx2 (a b c d e f g k : Int) (W : World) : (Instr.index 75 (.agg #[.int .u32 a, .int .u32 b, .int .u32 c, .int .u32 d, .int .u32 e, .int .u32 f, .int .u32 g, .int .u32 k]) (.int .i64 2)).run Tryd.prog W = .ok (.int .u32 c) W := by
  first | (simp [Instr.index, go_sem]; done) | (go_simp; done) | (with_unfolding_all rfl)
set_option maxRecDepth 100000 in
theorem idx3 (a b c d e f g k : Int) (W : World) : (Instr.index 75 (.agg #[.int .u32 a, .int .u32 b, .int .u32 c, .int .u32 d, .int .u32 e, .int .u32 f, .int .u32 g, .int .u32 k]) (.int .i64 3)).run Tryd.prog W = .ok (.int .u32 d) W := by
  first | (simp [Instr.index, go_sem]; done) | (go_simp; done) | (with_unfolding_all rfl)
set_option maxRecDepth 100000 in
theorem idx4 (a b c d e f g k : Int) (W : World) : (Instr.index 75 (.agg #[.int .u32 a, .int .u32 b, .int .u32 c, .int .u32 d, .int .u32 e, .int .u32 f, .int .u32 g, .int .u32 k]) (.int .i64 4)).run Tryd.prog W = .ok (.int .u32 e) W := by
  first | (simp [Instr.index, go_sem]; done) | (go_simp; done) | (with_unfolding_all rfl)
set_option maxRecDepth 100000 in
theorem idx5 (a b c d e f g k : Int) (W : World) : (Instr.index 75 (.agg #[.int .u32 a, .int .u32 b, .int .u32 c, .int .u32 d, .int .u32 e, .int .u32 f, .int .u32 g, .int .u32 k]) (.int .i64 5)).run Tryd.prog W = .ok (.int .u32 f) W := by
  first | (simp [Instr.index, go_sem]; done) | (go_simp; done) | (with_unfolding_all rfl)
set_option maxRecDepth 100000 in
theorem idx6 (a b c d e f g k : Int) (W : World) : (Instr.index 75 (.agg #[.int .u32 a, .int .u32 b, .int .u32 c, .int .u32 d, .int .u32 e, .int .u32 f, .int .u32 g, .int .u32 k]) (.int .i64 6)).run Tryd.prog W = .ok (.int .u32 g) W := by
  first | (simp [Instr.index, go_sem]; done) | (go_simp; done) | (with_unfolding_all rfl)
set_option maxRecDepth 100000 in
theorem idx7 (a b c d e f g k : Int) (W : World) : (Instr.index 75 (.agg #[.int .u32 a, .int .u32 b, .int .u32 c, .int .u32 d, .int .u32 e, .int .u32 f, .int .u32 g, .int .u32 k]) (.int .i64 7)).run Tryd.prog W = .ok (.int .u32 k) W := by
  first | (simp [Instr.index, go_sem]; done) | (go_simp; done) | (with_unfolding_all rfl)
/-- The eight words of a round. -/
structure R8 where
  a : Int
  b : Int
  c : Int
  d : Int
  e : Int
  f : Int
  g : Int
  h : Int
theorem u32_eq (x : Int) : IntKind.u32.wrap x = x % 4294967296 := by simp [IntKind.wrap, IntKind.bits, IntKind.signed]
def addf (xs : List Int) (j : Nat) (s : List Int) : List Int := s.set j (IntKind.u32.wrap (s.getD j 0 + xs.getD j 0))
theorem addf_len (xs : List Int) {s : List Int} (j : Nat) (h : s.length = 8) : (iter (addf xs) j s).length = 8 :=
  iter_inv (p := fun x : List Int => x.length = 8) (fun i x h => by simp [addf, h]) j _ h
def mixf (x : R8) (rv wv : Int) : Int := ((((x.h + Go.bits .xor .u32 (Go.bits .xor .u32 (rotf x.e 6) (rotf x.e 11)) (rotf x.e 25)) % 4294967296 + Go.bits .xor .u32 (Go.bits .and .u32 x.e x.f) (Go.bits .and .u32 (Go.bits .xor .u32 IntKind.u32.max x.e) x.g)) % 4294967296 + rv) % 4294967296 + wv) % 4294967296
def majf (x : R8) : Int := (Go.bits .xor .u32 (Go.bits .xor .u32 (rotf x.a 2) (rotf x.a 13)) (rotf x.a 22) + Go.bits .xor .u32 (Go.bits .xor .u32 (Go.bits .and .u32 x.a x.b) (Go.bits .and .u32 x.a x.c)) (Go.bits .and .u32 x.b x.c)) % 4294967296
def roundf (part : List Int) (i : Nat) (x : R8) : R8 :=
  ⟨(mixf x (roundsL.getD i 0) ((schedf part).getD i 0) + majf x) % 4294967296, x.a, x.b, x.c, (x.d + mixf x (roundsL.getD i 0) ((schedf part).getD i 0)) % 4294967296, x.e, x.f, x.g⟩
def sumf (x : R8) : List Int := [x.a, x.b, x.c, x.d, x.e, x.f, x.g, x.h]
def turnf (s part : List Int) : List Int := iter (addf (sumf (iter (roundf part) 64 ⟨s.getD 0 0, s.getD 1 0, s.getD 2 0, s.getD 3 0, s.getD 4 0, s.getD 5 0, s.getD 6 0, s.getD 7 0⟩))) 8 s
set_option maxHeartbeats 8000000 in
set_option maxRecDepth 100000 in
theorem turn_calls (w0 w : World) (bh : Nat) (s part : List Int) (n : Int) (hs : s.length = 8) (hp : part.length = 64) (hH : w.heap[bh]? = some (.cells (hcells s part n).toArray 78 (0, 0))) (hB : Below w0.heap.size w0 w) (hg : w0.heap.size ≤ bh) (hL : LaidR w) :
    Calls Tryd.prog 32 #[.pointer (some ⟨bh, 0, none⟩), .slice (some ⟨bh, 8, none⟩) 64 64] w fun e w' => e = .returned (.tuple #[]) ∧ w'.heap[bh]? = some (.cells (hcells (turnf s part) part n).toArray 78 (0, 0)) ∧ KeepBut w w' bh none ∧ Below w0.heap.size w0 w' := by
  have HSL := Aside0.mk hs
  have HPL := Aside0.mk hp
  have HH := Aside0.mk hH
  have HB := Aside0.mk hB
  have HG := Aside0.mk hg
  have HL := Aside0.mk hL
  have HSC := Aside0.mk (schedule_calls bh 8 part w hp (fun j hj => arr_cell hH (8 + j) (hc_p hs hp j hj)))
  clear hs hp hH hB hg hL
  go_enter Tryd.func32, Tryd.ntmps32
  obtain ⟨ws, hws⟩ : ∃ ws, (nums .u32 (schedf part)).toArray = ws := ⟨_, rfl⟩
  have HWS := Aside0.mk hws
  have HWL := Aside0.mk (show ws.size = 64 by rw [← hws, List.size_toArray, nums_length]; exact schedB_len part 48)
  have HW1 := Aside0.mk (show ws.all (·.oneCell') = true by rw [← hws]; simp [nums, Value.oneCell'])
  have HI2 := Aside0.mk (show (Tryd.prog.info? 87).map (·.size) = some ws.size by rw [HWL.out]; kernel_rfl)
  rw [hws] at HSC
  clear hws
  go_wp2_with (first
    | (go_at_call 40; (with_reducible refine HSC.out.mono ?_); rintro e w1 ⟨rfl, hb⟩; have HL1 := Aside0.mk (HL.out.up hb); have HH1 := Aside0.mk (blk_below HH.out hb); have HB1 := Aside0.mk (below_then HB.out HB.out.size hb); have HKB := Aside0.mk hb; clear hb HSC)
    | ((with_reducible refine gate_dst (N := 4) rfl ?_); refine box_event ?hg (N := 4) ?hd (cs := (nums .u32 (List.replicate 64 0)).toArray) (t := 87) ?hr ?_; (case hd => rfl); (case hg => rfl); (case hr => first | (go_simp; done) | (go_simp; rfl)); intro b4 hb4 w2 hbox hbl; have HX4 := Aside0.mk hbox; have HL2 := Aside0.mk (HL1.out.up hbl); have HH2 := Aside0.mk (blk_below HH1.out hbl); have HB2 := Aside0.mk (below_then HB1.out HB1.out.size hbl); have HK2 := Aside0.mk (below_step HKB.out hbl); have N4 := Aside0.mk (show bh < b4 by have := blk_lt HH1.out; omega); have G4 := Aside0.mk (show w.heap.size ≤ b4 by have := HKB.out.size; omega); clear hb4 hbox hbl)
    | (refine put_row rfl 87 (.tmp 4) (.tmp 19) rfl b4 ws rfl rfl 87 _ HX4.out HI2.out (by rw [HWL.out]; simp [nums]) HW1.out ?_))
  obtain ⟨x0, hx0⟩ : ∃ x : Int, s.getD 0 0 = x := ⟨_, rfl⟩
  obtain ⟨x1, hx1⟩ : ∃ x : Int, s.getD 1 0 = x := ⟨_, rfl⟩
  obtain ⟨x2, hx2⟩ : ∃ x : Int, s.getD 2 0 = x := ⟨_, rfl⟩
  obtain ⟨x3, hx3⟩ : ∃ x : Int, s.getD 3 0 = x := ⟨_, rfl⟩
  obtain ⟨x4, hx4⟩ : ∃ x : Int, s.getD 4 0 = x := ⟨_, rfl⟩
  obtain ⟨x5, hx5⟩ : ∃ x : Int, s.getD 5 0 = x := ⟨_, rfl⟩
  obtain ⟨x6, hx6⟩ : ∃ x : Int, s.getD 6 0 = x := ⟨_, rfl⟩
  obtain ⟨x7, hx7⟩ : ∃ x : Int, s.getD 7 0 = x := ⟨_, rfl⟩
  have HH3 := Aside0.mk (show (w2.setRow b4 ws).heap[bh]? = some (.cells (hcells s part n).toArray 78 (0, 0)) from (setRow_other w2 b4 bh ws (Nat.ne_of_lt N4.out)).trans HH2.out)
  have c0 : (w2.setRow b4 ws).cell? ⟨bh, 0, none⟩ = some (.int .u32 x0) := by rw [← hx0]; exact arr_cell HH3.out 0 (hc_s HSL.out 0 (by decide))
  have c1 : (w2.setRow b4 ws).cell? ⟨bh, 1, none⟩ = some (.int .u32 x1) := by rw [← hx1]; exact arr_cell HH3.out 1 (hc_s HSL.out 1 (by decide))
  have c2 : (w2.setRow b4 ws).cell? ⟨bh, 2, none⟩ = some (.int .u32 x2) := by rw [← hx2]; exact arr_cell HH3.out 2 (hc_s HSL.out 2 (by decide))
  have c3 : (w2.setRow b4 ws).cell? ⟨bh, 3, none⟩ = some (.int .u32 x3) := by rw [← hx3]; exact arr_cell HH3.out 3 (hc_s HSL.out 3 (by decide))
  have c4 : (w2.setRow b4 ws).cell? ⟨bh, 4, none⟩ = some (.int .u32 x4) := by rw [← hx4]; exact arr_cell HH3.out 4 (hc_s HSL.out 4 (by decide))
  have c5 : (w2.setRow b4 ws).cell? ⟨bh, 5, none⟩ = some (.int .u32 x5) := by rw [← hx5]; exact arr_cell HH3.out 5 (hc_s HSL.out 5 (by decide))
  have c6 : (w2.setRow b4 ws).cell? ⟨bh, 6, none⟩ = some (.int .u32 x6) := by rw [← hx6]; exact arr_cell HH3.out 6 (hc_s HSL.out 6 (by decide))
  have c7 : (w2.setRow b4 ws).cell? ⟨bh, 7, none⟩ = some (.int .u32 x7) := by rw [← hx7]; exact arr_cell HH3.out 7 (hc_s HSL.out 7 (by decide))
  have HXS := Aside0.mk (And.intro hx0 (And.intro hx1 (And.intro hx2 (And.intro hx3 (And.intro hx4 (And.intro hx5 (And.intro hx6 hx7)))))))
  clear hx0 hx1 hx2 hx3 hx4 hx5 hx6 hx7
  go_region_held3 (fun w' => w'.cell? ⟨bh, 0, none⟩ = some (.int .u32 x0) ∧ w'.cell? ⟨bh, 1, none⟩ = some (.int .u32 x1) ∧ w'.cell? ⟨bh, 2, none⟩ = some (.int .u32 x2) ∧ w'.cell? ⟨bh, 3, none⟩ = some (.int .u32 x3) ∧ w'.cell? ⟨bh, 4, none⟩ = some (.int .u32 x4) ∧ w'.cell? ⟨bh, 5, none⟩ = some (.int .u32 x5) ∧ w'.cell? ⟨bh, 6, none⟩ = some (.int .u32 x6) ∧ w'.cell? ⟨bh, 7, none⟩ = some (.int .u32 x7))
    (go_keep) (fail)
  rename_i hS
  clear hS c0 c1 c2 c3 c4 c5 c6 c7
  have HX5 := Aside0.mk (show (w2.setRow b4 ws).drew.heap[b4]? = some (.cells ws 87 (0, 0)) from setRow_heap _ _ _ _ _ _ HX4.out)
  have HH5 := Aside0.mk (show (w2.setRow b4 ws).drew.heap[bh]? = some (.cells (hcells s part n).toArray 78 (0, 0)) from HH3.out)
  have HB5 := Aside0.mk (show Below w0.heap.size w0 (w2.setRow b4 ws).drew from below_drew (below_row HB2.out (Nat.le_trans HG.out (Nat.le_of_lt N4.out)) _))
  have HK5 := Aside0.mk (show Below w.heap.size w (w2.setRow b4 ws).drew from below_drew (below_row HK2.out G4.out _))
  have HL5 := Aside0.mk (HL.out.up HK5.out)
  clear HX4 HH1 HH2 HH3 HB1 HB2 HKB HK2 HL1 HL2 HI2 HW1
  generalize (w2.setRow b4 ws).drew = W3 at HX5 HH5 HB5 HK5 HL5 ⊢
  go_wp2
  go_loopg [5, 6, 7, 8, 9, 10, 11, 12, 52] 64 (fun gg s5 s6 s7 s8 s9 s10 s11 s12 s52 wr => ∃ (i : Nat) (x : R8), Aside0 (i ≤ 64 ∧ 64 - i ≤ gg) ∧ s5 = .int .u32 x.a ∧ s6 = .int .u32 x.b ∧ s7 = .int .u32 x.c ∧ s8 = .int .u32 x.d ∧ s9 = .int .u32 x.e ∧ s10 = .int .u32 x.f ∧ s11 = .int .u32 x.g ∧ s12 = .int .u32 x.h ∧ s52 = .int .i64 (i : Int) ∧ Aside0 (x = iter (roundf part) i ⟨x0, x1, x2, x3, x4, x5, x6, x7⟩) ∧ Aside0 (wr.heap[b4]? = some (.cells ws 87 (0, 0))) ∧ Aside0 (wr.heap[bh]? = some (.cells (hcells s part n).toArray 78 (0, 0))) ∧ Aside0 (Below w0.heap.size w0 wr) ∧ Aside0 (Below w.heap.size w wr))
  case atStart => exact ⟨0, ⟨x0, x1, x2, x3, x4, x5, x6, x7⟩, ⟨by omega, by omega⟩, rfl, rfl, rfl, rfl, rfl, rfl, rfl, rfl, rfl, ⟨rfl⟩, HX5, HH5, HB5, HK5⟩
  case round =>
    clear HX5 HH5 HB5 HK5 HL5
    obtain ⟨i, x, HI, rfl, rfl, rfl, rfl, rfl, rfl, rfl, rfl, rfl, HX, HW4, HHH, HB5, HK5⟩ := hrel
    by_cases hlt : (i : Int) < 64
    · have hltb : decide ((i : Int) < 64) = true := decide_eq_true hlt
      have HI64 := Aside0.mk (show i < 64 by omega)
      have HSTEP := Aside0.mk (show iter (roundf part) (i + 1) ⟨x0, x1, x2, x3, x4, x5, x6, x7⟩ = roundf part i x by rw [HX.out]; rfl)
      have en : (i : Int) + 1 = ((i + 1 : Nat) : Int) := by omega
      have mn : i + 1 ≤ 9223372036854775807 := by omega
      have p0 : (0 : Int) ≤ (i : Int) := by omega
      have p1 : i < 64 := HI64.out
      have pI : (i : Int) < 64 := hlt
      obtain ⟨rv, hrv⟩ : ∃ v : Int, roundsL.getD i 0 = v := ⟨_, rfl⟩
      obtain ⟨wv, hwv⟩ : ∃ v : Int, (schedf part).getD i 0 = v := ⟨_, rfl⟩
      have cR : wr.cell? ⟨1, i, none⟩ = some (.int .u32 rv) := by rw [← hrv]; exact HL.out.up HK5.out i HI64.out
      have cW : wr.cell? ⟨b4, i, none⟩ = some (.int .u32 wv) := by rw [← hwv]; exact row_cell (by rw [HWS.out]; exact HW4.out) i (Nat.lt_of_lt_of_eq HI64.out (schedB_len part 48).symm)
      have HRW := Aside0.mk (And.intro hrv hwv)
      obtain ⟨a, b, c, d, e, f, g, k⟩ := x
      dsimp only at *
      obtain ⟨hwn, hvn⟩ := idx_at en mn
      clear en mn hrv hwv hlt
      go_wp2
      go_region_held3 (fun w' => w'.cell? ⟨1, i, none⟩ = some (.int .u32 rv) ∧ w'.cell? ⟨b4, i, none⟩ = some (.int .u32 wv))
        (first | (go_keep; done) | exact ⟨cR, cW⟩ | exact cR | exact cW)
        ((go_at_call 41; (with_reducible refine (right_calls3 _ _ _ (by simp)).mono ?_); rintro e5 w5 ⟨rfl, nd, rfl⟩))
      all_goals
        rename_i hS
        clear hS cR cW
        go_wp2_with (go_at_call 41; (with_reducible refine (right_calls3 _ _ _ (by simp)).mono ?_); rintro e5 w5 ⟨rfl, nd, rfl⟩)
        generalize hA : Go.bits .xor .u32 (Go.bits .xor .u32 (rotf e 6) (rotf e 11)) (rotf e 25) = A
        generalize hB : Go.bits .xor .u32 (Go.bits .and .u32 e f) (Go.bits .and .u32 (Go.bits .xor .u32 IntKind.u32.max e) g) = B
        generalize hC : Go.bits .xor .u32 (Go.bits .xor .u32 (rotf a 2) (rotf a 13)) (rotf a 22) = C
        generalize hD : Go.bits .xor .u32 (Go.bits .xor .u32 (Go.bits .and .u32 a b) (Go.bits .and .u32 a c)) (Go.bits .and .u32 b c) = D
        have HSX := Aside0.mk (show roundf part i ⟨a, b, c, d, e, f, g, k⟩ = ⟨(((((k + A) % 4294967296 + B) % 4294967296 + rv) % 4294967296 + wv) % 4294967296 + (C + D) % 4294967296) % 4294967296, a, b, c, (d + ((((k + A) % 4294967296 + B) % 4294967296 + rv) % 4294967296 + wv) % 4294967296) % 4294967296, e, f, g⟩ by
          unfold roundf mixf majf
          dsimp only
          rw [hA, hB, hC, hD, HRW.out.1, HRW.out.2])
        clear hA hB hC hD hvn p1 pI
        go_roundg (64 - (i + 1))
        case measure => clear hwn; have := HI.out; have := HI64.out; omega
        case rel =>
          refine ⟨i + 1, ⟨(((((k + A) % 4294967296 + B) % 4294967296 + rv) % 4294967296 + wv) % 4294967296 + (C + D) % 4294967296) % 4294967296, a, b, c, (d + ((((k + A) % 4294967296 + B) % 4294967296 + rv) % 4294967296 + wv) % 4294967296) % 4294967296, e, f, g⟩, ⟨by clear hwn; have := HI64.out; omega, by clear hwn; have := HI.out; omega⟩, ?_, rfl, rfl, rfl, ?_, rfl, rfl, rfl, by first | (with_reducible rfl) | (simp [hwn]; done) | go_num, ⟨by rw [HSTEP.out, HSX.out]⟩, ⟨blk_drewN HW4.out _⟩, ⟨blk_drewN HHH.out _⟩, ⟨pw_below_drewN HB5.out _⟩, ⟨pw_below_drewN HK5.out _⟩⟩
          · clear hwn; first | rfl | (congr 1; (try simp only [u32_eq]); omega)
          · clear hwn; first | rfl | (congr 1; (try simp only [u32_eq]); omega)
    · have hltb : decide ((i : Int) < 64) = false := decide_eq_false hlt
      obtain rfl : i = 64 := by have := HI.out; omega
      obtain ⟨a, b, c, d, e, f, g, k⟩ := x
      dsimp only at *
      clear hltb hlt
      go_wp2
      have HTF := Aside0.mk (show turnf s part = iter (addf [a, b, c, d, e, f, g, k]) 8 s by unfold turnf; rw [HXS.out.1, HXS.out.2.1, HXS.out.2.2.1, HXS.out.2.2.2.1, HXS.out.2.2.2.2.1, HXS.out.2.2.2.2.2.1, HXS.out.2.2.2.2.2.2.1, HXS.out.2.2.2.2.2.2.2, ← HX.out]; rfl)
      have HKE := Aside0.mk (KeepBut.of_below HK5.out bh none)
      clear HW4 HK5 HX HXS HWS HWL
      go_loopg [124] 8 (fun gg s124 wr => ∃ (j : Nat), Aside0 (j ≤ 8 ∧ 8 - j ≤ gg) ∧ s124 = .int .i64 (j : Int) ∧ Aside0 (wr.heap[bh]? = some (.cells (hcells (iter (addf [a, b, c, d, e, f, g, k]) j s) part n).toArray 78 (0, 0))) ∧ Aside0 (KeepBut w wr bh none) ∧ Aside0 (Below w0.heap.size w0 wr))
      case atStart => exact ⟨0, ⟨by omega, by omega⟩, rfl, HHH, HKE, HB5⟩
      case round =>
        clear HHH HKE HB5 HI
        obtain ⟨j, HJ, rfl, HHH, HKE, HB5⟩ := hrel
        have hj : j = 0 ∨ j = 1 ∨ j = 2 ∨ j = 3 ∨ j = 4 ∨ j = 5 ∨ j = 6 ∨ j = 7 ∨ j = 8 := by have := HJ.out; omega
        rcases hj with rfl | rfl | rfl | rfl | rfl | rfl | rfl | rfl | rfl
        · have HSJ := Aside0.mk (show (iter (addf [a, b, c, d, e, f, g, k]) 0 s).length = 8 from addf_len _ 0 HSL.out)
          obtain ⟨ss, hss⟩ : ∃ ss, iter (addf [a, b, c, d, e, f, g, k]) 0 s = ss := ⟨_, rfl⟩
          have HNX := Aside0.mk (show iter (addf [a, b, c, d, e, f, g, k]) 1 s = ss.set 0 (IntKind.u32.wrap (ss.getD 0 0 + a)) by rw [← hss]; rfl)
          rw [hss] at HHH HSJ
          clear hss
          obtain ⟨y, hy⟩ : ∃ y : Int, ss.getD 0 0 = y := ⟨_, rfl⟩
          obtain ⟨v, hv⟩ : ∃ v : Int, IntKind.u32.wrap (y + a) = v := ⟨_, rfl⟩
          rw [hy, hv] at HNX
          have c0 : wr.cell? ⟨bh, 0, none⟩ = some (.int .u32 y) := by rw [← hy]; exact arr_cell HHH.out 0 (hc_s HSJ.out 0 (by decide))
          clear hy
          have hidx := fun W => idx0 a b c d e f g k W
          go_wp2
          clear hidx
          have c0d : wr.drew.cell? ⟨bh, 0, none⟩ = some (.int .u32 y) := c0
          refine start_ (n := 10) (S := fun w' => w'.cell? ⟨bh, 0, none⟩ = some (.int .u32 y)) (ds := [9]) #[false, false, false, false, false, false, false, false, false, false] (by kernel_rfl) rfl rfl c0d (fun hHeld => ?_)
          refine pure_ (i := 0) (N := some 128) (v := ?_) (a' := ?_) #[true, false, false, false, false, false, false, false, false, false] rfl rfl (by kernel_rfl) (fun _ _ _ h => h) (Or.inl ⟨by rfl, ?_⟩) ?_ ?_
          rotate_left
          · intro w'
            go_simp
            with_reducible rfl
          rotate_left
          · simp only [Act.put, List.setIfInBounds_toArray, List.set_cons_zero, List.set_cons_succ, i64_w, i32_w]
            rfl
          refine pure_ (i := 1) (N := some 129) (v := ?_) (a' := ?_) #[true, true, false, false, false, false, false, false, false, false] rfl rfl (by kernel_rfl) (fun _ _ _ h => h) (Or.inl ⟨by rfl, ?_⟩) ?_ ?_
          rotate_left
          · intro w'
            go_simp
            with_reducible rfl
          rotate_left
          · simp only [Act.put, List.setIfInBounds_toArray, List.set_cons_zero, List.set_cons_succ, i64_w, i32_w]
            rfl
          refine pure_ (i := 2) (N := some 130) (v := ?_) (a' := ?_) #[true, true, true, false, false, false, false, false, false, false] rfl rfl (by kernel_rfl) (fun _ _ _ h => h) (Or.inl ⟨by rfl, ?_⟩) ?_ ?_
          rotate_left
          · intro w'
            go_simp
            with_reducible rfl
          rotate_left
          · simp only [Act.put, List.setIfInBounds_toArray, List.set_cons_zero, List.set_cons_succ, i64_w, i32_w]
            rfl
          refine pure_ (i := 3) (N := some 131) (v := ?_) (a' := ?_) #[true, true, true, true, false, false, false, false, false, false] rfl rfl (by kernel_rfl) (fun _ _ _ h => h) (Or.inl ⟨by rfl, ?_⟩) ?_ ?_
          rotate_left
          · intro w'
            go_simp
            with_reducible rfl
          rotate_left
          · simp only [Act.put, List.setIfInBounds_toArray, List.set_cons_zero, List.set_cons_succ, i64_w, i32_w]
            rfl
          refine take_ (i := 4) (N := some 132) (v := ?_) (a' := ?_) #[true, true, true, true, true, false, false, false, false, false] rfl rfl (by kernel_rfl) (fun _ _ _ h => h) (Or.inl ⟨by rfl, ?_⟩) hHeld ?_ ?_
          rotate_left
          · intro w' s0
            go_simp
            with_reducible rfl
          rotate_left
          · simp only [Act.put, List.setIfInBounds_toArray, List.set_cons_zero, List.set_cons_succ, i64_w, i32_w]
            rfl
          refine pure_ (i := 5) (N := some 133) (v := ?_) (a' := ?_) #[true, true, true, true, true, true, false, false, false, false] rfl rfl (by kernel_rfl) (fun _ _ _ h => h) (Or.inl ⟨by rfl, ?_⟩) ?_ ?_
          rotate_left
          · intro w'
            go_simp
            with_reducible rfl
          rotate_left
          · simp only [Act.put, List.setIfInBounds_toArray, List.set_cons_zero, List.set_cons_succ, i64_w, i32_w]
            rfl
          refine pure_ (i := 6) (N := some 134) (v := ?_) (a' := ?_) #[true, true, true, true, true, true, true, false, false, false] rfl rfl (by kernel_rfl) (fun _ _ _ h => h) (Or.inl ⟨by rfl, ?_⟩) ?_ ?_
          rotate_left
          · intro w'
            go_simp
            with_reducible rfl
          rotate_left
          · simp only [Act.put, List.setIfInBounds_toArray, List.set_cons_zero, List.set_cons_succ, i64_w, i32_w]
            rfl
          refine pure_ (i := 7) (N := some 135) (v := ?_) (a' := ?_) #[true, true, true, true, true, true, true, true, false, false] rfl rfl (by kernel_rfl) (fun _ _ _ h => h) (Or.inl ⟨by rfl, ?_⟩) ?_ ?_
          rotate_left
          · intro w'
            go_simp
            with_reducible rfl
          rotate_left
          · simp only [Act.put, List.setIfInBounds_toArray, List.set_cons_zero, List.set_cons_succ, i64_w, i32_w]
            rfl
          refine pure_ (i := 8) (N := some 136) (v := ?_) (a' := ?_) #[true, true, true, true, true, true, true, true, true, false] rfl rfl (by kernel_rfl) (fun _ _ _ h => h) (Or.inl ⟨by rfl, ?_⟩) ?_ ?_
          rotate_left
          · intro w'
            go_simp
            with_reducible rfl
          rotate_left
          · simp only [Act.put, List.setIfInBounds_toArray, List.set_cons_zero, List.set_cons_succ, i64_w, i32_w]
            rfl
          refine last_ (i := 9) (N := none) #[true, true, true, true, true, true, true, true, true, true] rfl rfl (by kernel_rfl) (by decide) (fun K hK => ?_)
          have z0d := blk_frozen (blk_drew HHH.out) 0
          refine skip_ (w1 := ?_) (by rfl) rfl ?_ ?_
          rotate_left
          · go_simp
            rfl
          refine hK.out _ _ ?_
          clear hK K
          refine done_ (by kernel_rfl) ?_
          have HHN := Aside0.mk (show ((wr.setCell ⟨bh, 0, none⟩ (.int .u32 v)).drew).heap[bh]? = some (.cells (hcells (iter (addf [a, b, c, d, e, f, g, k]) 1 s) part n).toArray 78 (0, 0)) from by rw [HNX.out, ← hc_set_s HSJ.out 0 (by decide)]; exact blk_drew (arr_put HHH.out 0 _))
          have HKN := Aside0.mk (show KeepBut w ((wr.setCell ⟨bh, 0, none⟩ (.int .u32 v)).drew) bh none from KeepBut.set_ HKE.out 0 _)
          have HBN := Aside0.mk (show Below w0.heap.size w0 ((wr.setCell ⟨bh, 0, none⟩ (.int .u32 v)).drew) from below_drew (HB5.out.setCell HG.out _))
          clear c0 c0d z0d hv hHeld HHH HKE HB5 HNX HSJ
          generalize (wr.setCell ⟨bh, 0, none⟩ (.int .u32 v)).drew = W5 at HHN HKN HBN ⊢
          go_wp2
          go_roundg (8 - 1)
          case measure => have := HJ.out; omega
          case rel => exact ⟨1, ⟨by omega, by have := HJ.out; omega⟩, by first | rfl | go_num, HHN, HKN, HBN⟩
        · have HSJ := Aside0.mk (show (iter (addf [a, b, c, d, e, f, g, k]) 1 s).length = 8 from addf_len _ 1 HSL.out)
          obtain ⟨ss, hss⟩ : ∃ ss, iter (addf [a, b, c, d, e, f, g, k]) 1 s = ss := ⟨_, rfl⟩
          have HNX := Aside0.mk (show iter (addf [a, b, c, d, e, f, g, k]) 2 s = ss.set 1 (IntKind.u32.wrap (ss.getD 1 0 + b)) by rw [← hss]; rfl)
          rw [hss] at HHH HSJ
          clear hss
          obtain ⟨y, hy⟩ : ∃ y : Int, ss.getD 1 0 = y := ⟨_, rfl⟩
          obtain ⟨v, hv⟩ : ∃ v : Int, IntKind.u32.wrap (y + b) = v := ⟨_, rfl⟩
          rw [hy, hv] at HNX
          have c0 : wr.cell? ⟨bh, 1, none⟩ = some (.int .u32 y) := by rw [← hy]; exact arr_cell HHH.out 1 (hc_s HSJ.out 1 (by decide))
          clear hy
          have hidx := fun W => idx1 a b c d e f g k W
          go_wp2
          clear hidx
          have c0d : wr.drew.cell? ⟨bh, 1, none⟩ = some (.int .u32 y) := c0
          refine start_ (n := 10) (S := fun w' => w'.cell? ⟨bh, 1, none⟩ = some (.int .u32 y)) (ds := [9]) #[false, false, false, false, false, false, false, false, false, false] (by kernel_rfl) rfl rfl c0d (fun hHeld => ?_)
          refine pure_ (i := 0) (N := some 128) (v := ?_) (a' := ?_) #[true, false, false, false, false, false, false, false, false, false] rfl rfl (by kernel_rfl) (fun _ _ _ h => h) (Or.inl ⟨by rfl, ?_⟩) ?_ ?_
          rotate_left
          · intro w'
            go_simp
            with_reducible rfl
          rotate_left
          · simp only [Act.put, List.setIfInBounds_toArray, List.set_cons_zero, List.set_cons_succ, i64_w, i32_w]
            rfl
          refine pure_ (i := 1) (N := some 129) (v := ?_) (a' := ?_) #[true, true, false, false, false, false, false, false, false, false] rfl rfl (by kernel_rfl) (fun _ _ _ h => h) (Or.inl ⟨by rfl, ?_⟩) ?_ ?_
          rotate_left
          · intro w'
            go_simp
            with_reducible rfl
          rotate_left
          · simp only [Act.put, List.setIfInBounds_toArray, List.set_cons_zero, List.set_cons_succ, i64_w, i32_w]
            rfl
          refine pure_ (i := 2) (N := some 130) (v := ?_) (a' := ?_) #[true, true, true, false, false, false, false, false, false, false] rfl rfl (by kernel_rfl) (fun _ _ _ h => h) (Or.inl ⟨by rfl, ?_⟩) ?_ ?_
          rotate_left
          · intro w'
            go_simp
            with_reducible rfl
          rotate_left
          · simp only [Act.put, List.setIfInBounds_toArray, List.set_cons_zero, List.set_cons_succ, i64_w, i32_w]
            rfl
          refine pure_ (i := 3) (N := some 131) (v := ?_) (a' := ?_) #[true, true, true, true, false, false, false, false, false, false] rfl rfl (by kernel_rfl) (fun _ _ _ h => h) (Or.inl ⟨by rfl, ?_⟩) ?_ ?_
          rotate_left
          · intro w'
            go_simp
            with_reducible rfl
          rotate_left
          · simp only [Act.put, List.setIfInBounds_toArray, List.set_cons_zero, List.set_cons_succ, i64_w, i32_w]
            rfl
          refine take_ (i := 4) (N := some 132) (v := ?_) (a' := ?_) #[true, true, true, true, true, false, false, false, false, false] rfl rfl (by kernel_rfl) (fun _ _ _ h => h) (Or.inl ⟨by rfl, ?_⟩) hHeld ?_ ?_
          rotate_left
          · intro w' s0
            go_simp
            with_reducible rfl
          rotate_left
          · simp only [Act.put, List.setIfInBounds_toArray, List.set_cons_zero, List.set_cons_succ, i64_w, i32_w]
            rfl
          refine pure_ (i := 5) (N := some 133) (v := ?_) (a' := ?_) #[true, true, true, true, true, true, false, false, false, false] rfl rfl (by kernel_rfl) (fun _ _ _ h => h) (Or.inl ⟨by rfl, ?_⟩) ?_ ?_
          rotate_left
          · intro w'
            go_simp
            with_reducible rfl
          rotate_left
          · simp only [Act.put, List.setIfInBounds_toArray, List.set_cons_zero, List.set_cons_succ, i64_w, i32_w]
            rfl
          refine pure_ (i := 6) (N := some 134) (v := ?_) (a' := ?_) #[true, true, true, true, true, true, true, false, false, false] rfl rfl (by kernel_rfl) (fun _ _ _ h => h) (Or.inl ⟨by rfl, ?_⟩) ?_ ?_
          rotate_left
          · intro w'
            go_simp
            with_reducible rfl
          rotate_left
          · simp only [Act.put, List.setIfInBounds_toArray, List.set_cons_zero, List.set_cons_succ, i64_w, i32_w]
            rfl
          refine pure_ (i := 7) (N := some 135) (v := ?_) (a' := ?_) #[true, true, true, true, true, true, true, true, false, false] rfl rfl (by kernel_rfl) (fun _ _ _ h => h) (Or.inl ⟨by rfl, ?_⟩) ?_ ?_
          rotate_left
          · intro w'
            go_simp
            with_reducible rfl
          rotate_left
          · simp only [Act.put, List.setIfInBounds_toArray, List.set_cons_zero, List.set_cons_succ, i64_w, i32_w]
            rfl
          refine pure_ (i := 8) (N := some 136) (v := ?_) (a' := ?_) #[true, true, true, true, true, true, true, true, true, false] rfl rfl (by kernel_rfl) (fun _ _ _ h => h) (Or.inl ⟨by rfl, ?_⟩) ?_ ?_
          rotate_left
          · intro w'
            go_simp
            with_reducible rfl
          rotate_left
          · simp only [Act.put, List.setIfInBounds_toArray, List.set_cons_zero, List.set_cons_succ, i64_w, i32_w]
            rfl
          refine last_ (i := 9) (N := none) #[true, true, true, true, true, true, true, true, true, true] rfl rfl (by kernel_rfl) (by decide) (fun K hK => ?_)
          have z0d := blk_frozen (blk_drew HHH.out) 1
          refine skip_ (w1 := ?_) (by rfl) rfl ?_ ?_
          rotate_left
          · go_simp
            rfl
          refine hK.out _ _ ?_
          clear hK K
          refine done_ (by kernel_rfl) ?_
          have HHN := Aside0.mk (show ((wr.setCell ⟨bh, 1, none⟩ (.int .u32 v)).drew).heap[bh]? = some (.cells (hcells (iter (addf [a, b, c, d, e, f, g, k]) 2 s) part n).toArray 78 (0, 0)) from by rw [HNX.out, ← hc_set_s HSJ.out 1 (by decide)]; exact blk_drew (arr_put HHH.out 1 _))
          have HKN := Aside0.mk (show KeepBut w ((wr.setCell ⟨bh, 1, none⟩ (.int .u32 v)).drew) bh none from KeepBut.set_ HKE.out 1 _)
          have HBN := Aside0.mk (show Below w0.heap.size w0 ((wr.setCell ⟨bh, 1, none⟩ (.int .u32 v)).drew) from below_drew (HB5.out.setCell HG.out _))
          clear c0 c0d z0d hv hHeld HHH HKE HB5 HNX HSJ
          generalize (wr.setCell ⟨bh, 1, none⟩ (.int .u32 v)).drew = W5 at HHN HKN HBN ⊢
          go_wp2
          go_roundg (8 - 2)
          case measure => have := HJ.out; omega
          case rel => exact ⟨2, ⟨by omega, by have := HJ.out; omega⟩, by first | rfl | go_num, HHN, HKN, HBN⟩
        · have HSJ := Aside0.mk (show (iter (addf [a, b, c, d, e, f, g, k]) 2 s).length = 8 from addf_len _ 2 HSL.out)
          obtain ⟨ss, hss⟩ : ∃ ss, iter (addf [a, b, c, d, e, f, g, k]) 2 s = ss := ⟨_, rfl⟩
          have HNX := Aside0.mk (show iter (addf [a, b, c, d, e, f, g, k]) 3 s = ss.set 2 (IntKind.u32.wrap (ss.getD 2 0 + c)) by rw [← hss]; rfl)
          rw [hss] at HHH HSJ
          clear hss
          obtain ⟨y, hy⟩ : ∃ y : Int, ss.getD 2 0 = y := ⟨_, rfl⟩
          obtain ⟨v, hv⟩ : ∃ v : Int, IntKind.u32.wrap (y + c) = v := ⟨_, rfl⟩
          rw [hy, hv] at HNX
          have c0 : wr.cell? ⟨bh, 2, none⟩ = some (.int .u32 y) := by rw [← hy]; exact arr_cell HHH.out 2 (hc_s HSJ.out 2 (by decide))
          clear hy
          have hidx := fun W => idx2 a b c d e f g k W
          go_wp2
          clear hidx
          have c0d : wr.drew.cell? ⟨bh, 2, none⟩ = some (.int .u32 y) := c0
          refine start_ (n := 10) (S := fun w' => w'.cell? ⟨bh, 2, none⟩ = some (.int .u32 y)) (ds := [9]) #[false, false, false, false, false, false, false, false, false, false] (by kernel_rfl) rfl rfl c0d (fun hHeld => ?_)
          refine pure_ (i := 0) (N := some 128) (v := ?_) (a' := ?_) #[true, false, false, false, false, false, false, false, false, false] rfl rfl (by kernel_rfl) (fun _ _ _ h => h) (Or.inl ⟨by rfl, ?_⟩) ?_ ?_
          rotate_left
          · intro w'
            go_simp
            with_reducible rfl
          rotate_left
          · simp only [Act.put, List.setIfInBounds_toArray, List.set_cons_zero, List.set_cons_succ, i64_w, i32_w]
            rfl
          refine pure_ (i := 1) (N := some 129) (v := ?_) (a' := ?_) #[true, true, false, false, false, false, false, false, false, false] rfl rfl (by kernel_rfl) (fun _ _ _ h => h) (Or.inl ⟨by rfl, ?_⟩) ?_ ?_
          rotate_left
          · intro w'
            go_simp
            with_reducible rfl
          rotate_left
          · simp only [Act.put, List.setIfInBounds_toArray, List.set_cons_zero, List.set_cons_succ, i64_w, i32_w]
            rfl
          refine pure_ (i := 2) (N := some 130) (v := ?_) (a' := ?_) #[true, true, true, false, false, false, false, false, false, false] rfl rfl (by kernel_rfl) (fun _ _ _ h => h) (Or.inl ⟨by rfl, ?_⟩) ?_ ?_
          rotate_left
          · intro w'
            go_simp
            with_reducible rfl
          rotate_left
          · simp only [Act.put, List.setIfInBounds_toArray, List.set_cons_zero, List.set_cons_succ, i64_w, i32_w]
            rfl
          refine pure_ (i := 3) (N := some 131) (v := ?_) (a' := ?_) #[true, true, true, true, false, false, false, false, false, false] rfl rfl (by kernel_rfl) (fun _ _ _ h => h) (Or.inl ⟨by rfl, ?_⟩) ?_ ?_
          rotate_left
          · intro w'
            go_simp
            with_reducible rfl
          rotate_left
          · simp only [Act.put, List.setIfInBounds_toArray, List.set_cons_zero, List.set_cons_succ, i64_w, i32_w]
            rfl
          refine take_ (i := 4) (N := some 132) (v := ?_) (a' := ?_) #[true, true, true, true, true, false, false, false, false, false] rfl rfl (by kernel_rfl) (fun _ _ _ h => h) (Or.inl ⟨by rfl, ?_⟩) hHeld ?_ ?_
          rotate_left
          · intro w' s0
            go_simp
            with_reducible rfl
          rotate_left
          · simp only [Act.put, List.setIfInBounds_toArray, List.set_cons_zero, List.set_cons_succ, i64_w, i32_w]
            rfl
          refine pure_ (i := 5) (N := some 133) (v := ?_) (a' := ?_) #[true, true, true, true, true, true, false, false, false, false] rfl rfl (by kernel_rfl) (fun _ _ _ h => h) (Or.inl ⟨by rfl, ?_⟩) ?_ ?_
          rotate_left
          · intro w'
            go_simp
            with_reducible rfl
          rotate_left
          · simp only [Act.put, List.setIfInBounds_toArray, List.set_cons_zero, List.set_cons_succ, i64_w, i32_w]
            rfl
          refine pure_ (i := 6) (N := some 134) (v := ?_) (a' := ?_) #[true, true, true, true, true, true, true, false, false, false] rfl rfl (by kernel_rfl) (fun _ _ _ h => h) (Or.inl ⟨by rfl, ?_⟩) ?_ ?_
          rotate_left
          · intro w'
            go_simp
            with_reducible rfl
          rotate_left
          · simp only [Act.put, List.setIfInBounds_toArray, List.set_cons_zero, List.set_cons_succ, i64_w, i32_w]
            rfl
          refine pure_ (i := 7) (N := some 135) (v := ?_) (a' := ?_) #[true, true, true, true, true, true, true, true, false, false] rfl rfl (by kernel_rfl) (fun _ _ _ h => h) (Or.inl ⟨by rfl, ?_⟩) ?_ ?_
          rotate_left
          · intro w'
            go_simp
            with_reducible rfl
          rotate_left
          · simp only [Act.put, List.setIfInBounds_toArray, List.set_cons_zero, List.set_cons_succ, i64_w, i32_w]
            rfl
          refine pure_ (i := 8) (N := some 136) (v := ?_) (a' := ?_) #[true, true, true, true, true, true, true, true, true, false] rfl rfl (by kernel_rfl) (fun _ _ _ h => h) (Or.inl ⟨by rfl, ?_⟩) ?_ ?_
          rotate_left
          · intro w'
            go_simp
            with_reducible rfl
          rotate_left
          · simp only [Act.put, List.setIfInBounds_toArray, List.set_cons_zero, List.set_cons_succ, i64_w, i32_w]
            rfl
          refine last_ (i := 9) (N := none) #[true, true, true, true, true, true, true, true, true, true] rfl rfl (by kernel_rfl) (by decide) (fun K hK => ?_)
          have z0d := blk_frozen (blk_drew HHH.out) 2
          refine skip_ (w1 := ?_) (by rfl) rfl ?_ ?_
          rotate_left
          · go_simp
            rfl
          refine hK.out _ _ ?_
          clear hK K
          refine done_ (by kernel_rfl) ?_
          have HHN := Aside0.mk (show ((wr.setCell ⟨bh, 2, none⟩ (.int .u32 v)).drew).heap[bh]? = some (.cells (hcells (iter (addf [a, b, c, d, e, f, g, k]) 3 s) part n).toArray 78 (0, 0)) from by rw [HNX.out, ← hc_set_s HSJ.out 2 (by decide)]; exact blk_drew (arr_put HHH.out 2 _))
          have HKN := Aside0.mk (show KeepBut w ((wr.setCell ⟨bh, 2, none⟩ (.int .u32 v)).drew) bh none from KeepBut.set_ HKE.out 2 _)
          have HBN := Aside0.mk (show Below w0.heap.size w0 ((wr.setCell ⟨bh, 2, none⟩ (.int .u32 v)).drew) from below_drew (HB5.out.setCell HG.out _))
          clear c0 c0d z0d hv hHeld HHH HKE HB5 HNX HSJ
          generalize (wr.setCell ⟨bh, 2, none⟩ (.int .u32 v)).drew = W5 at HHN HKN HBN ⊢
          go_wp2
          go_roundg (8 - 3)
          case measure => have := HJ.out; omega
          case rel => exact ⟨3, ⟨by omega, by have := HJ.out; omega⟩, by first | rfl | go_num, HHN, HKN, HBN⟩
        · have HSJ := Aside0.mk (show (iter (addf [a, b, c, d, e, f, g, k]) 3 s).length = 8 from addf_len _ 3 HSL.out)
          obtain ⟨ss, hss⟩ : ∃ ss, iter (addf [a, b, c, d, e, f, g, k]) 3 s = ss := ⟨_, rfl⟩
          have HNX := Aside0.mk (show iter (addf [a, b, c, d, e, f, g, k]) 4 s = ss.set 3 (IntKind.u32.wrap (ss.getD 3 0 + d)) by rw [← hss]; rfl)
          rw [hss] at HHH HSJ
          clear hss
          obtain ⟨y, hy⟩ : ∃ y : Int, ss.getD 3 0 = y := ⟨_, rfl⟩
          obtain ⟨v, hv⟩ : ∃ v : Int, IntKind.u32.wrap (y + d) = v := ⟨_, rfl⟩
          rw [hy, hv] at HNX
          have c0 : wr.cell? ⟨bh, 3, none⟩ = some (.int .u32 y) := by rw [← hy]; exact arr_cell HHH.out 3 (hc_s HSJ.out 3 (by decide))
          clear hy
          have hidx := fun W => idx3 a b c d e f g k W
          go_wp2
          clear hidx
          have c0d : wr.drew.cell? ⟨bh, 3, none⟩ = some (.int .u32 y) := c0
          refine start_ (n := 10) (S := fun w' => w'.cell? ⟨bh, 3, none⟩ = some (.int .u32 y)) (ds := [9]) #[false, false, false, false, false, false, false, false, false, false] (by kernel_rfl) rfl rfl c0d (fun hHeld => ?_)
          refine pure_ (i := 0) (N := some 128) (v := ?_) (a' := ?_) #[true, false, false, false, false, false, false, false, false, false] rfl rfl (by kernel_rfl) (fun _ _ _ h => h) (Or.inl ⟨by rfl, ?_⟩) ?_ ?_
          rotate_left
          · intro w'
            go_simp
            with_reducible rfl
          rotate_left
          · simp only [Act.put, List.setIfInBounds_toArray, List.set_cons_zero, List.set_cons_succ, i64_w, i32_w]
            rfl
          refine pure_ (i := 1) (N := some 129) (v := ?_) (a' := ?_) #[true, true, false, false, false, false, false, false, false, false] rfl rfl (by kernel_rfl) (fun _ _ _ h => h) (Or.inl ⟨by rfl, ?_⟩) ?_ ?_
          rotate_left
          · intro w'
            go_simp
            with_reducible rfl
          rotate_left
          · simp only [Act.put, List.setIfInBounds_toArray, List.set_cons_zero, List.set_cons_succ, i64_w, i32_w]
            rfl
          refine pure_ (i := 2) (N := some 130) (v := ?_) (a' := ?_) #[true, true, true, false, false, false, false, false, false, false] rfl rfl (by kernel_rfl) (fun _ _ _ h => h) (Or.inl ⟨by rfl, ?_⟩) ?_ ?_
          rotate_left
          · intro w'
            go_simp
            with_reducible rfl
          rotate_left
          · simp only [Act.put, List.setIfInBounds_toArray, List.set_cons_zero, List.set_cons_succ, i64_w, i32_w]
            rfl
          refine pure_ (i := 3) (N := some 131) (v := ?_) (a' := ?_) #[true, true, true, true, false, false, false, false, false, false] rfl rfl (by kernel_rfl) (fun _ _ _ h => h) (Or.inl ⟨by rfl, ?_⟩) ?_ ?_
          rotate_left
          · intro w'
            go_simp
            with_reducible rfl
          rotate_left
          · simp only [Act.put, List.setIfInBounds_toArray, List.set_cons_zero, List.set_cons_succ, i64_w, i32_w]
            rfl
          refine take_ (i := 4) (N := some 132) (v := ?_) (a' := ?_) #[true, true, true, true, true, false, false, false, false, false] rfl rfl (by kernel_rfl) (fun _ _ _ h => h) (Or.inl ⟨by rfl, ?_⟩) hHeld ?_ ?_
          rotate_left
          · intro w' s0
            go_simp
            with_reducible rfl
          rotate_left
          · simp only [Act.put, List.setIfInBounds_toArray, List.set_cons_zero, List.set_cons_succ, i64_w, i32_w]
            rfl
          refine pure_ (i := 5) (N := some 133) (v := ?_) (a' := ?_) #[true, true, true, true, true, true, false, false, false, false] rfl rfl (by kernel_rfl) (fun _ _ _ h => h) (Or.inl ⟨by rfl, ?_⟩) ?_ ?_
          rotate_left
          · intro w'
            go_simp
            with_reducible rfl
          rotate_left
          · simp only [Act.put, List.setIfInBounds_toArray, List.set_cons_zero, List.set_cons_succ, i64_w, i32_w]
            rfl
          refine pure_ (i := 6) (N := some 134) (v := ?_) (a' := ?_) #[true, true, true, true, true, true, true, false, false, false] rfl rfl (by kernel_rfl) (fun _ _ _ h => h) (Or.inl ⟨by rfl, ?_⟩) ?_ ?_
          rotate_left
          · intro w'
            go_simp
            with_reducible rfl
          rotate_left
          · simp only [Act.put, List.setIfInBounds_toArray, List.set_cons_zero, List.set_cons_succ, i64_w, i32_w]
            rfl
          refine pure_ (i := 7) (N := some 135) (v := ?_) (a' := ?_) #[true, true, true, true, true, true, true, true, false, false] rfl rfl (by kernel_rfl) (fun _ _ _ h => h) (Or.inl ⟨by rfl, ?_⟩) ?_ ?_
          rotate_left
          · intro w'
            go_simp
            with_reducible rfl
          rotate_left
          · simp only [Act.put, List.setIfInBounds_toArray, List.set_cons_zero, List.set_cons_succ, i64_w, i32_w]
            rfl
          refine pure_ (i := 8) (N := some 136) (v := ?_) (a' := ?_) #[true, true, true, true, true, true, true, true, true, false] rfl rfl (by kernel_rfl) (fun _ _ _ h => h) (Or.inl ⟨by rfl, ?_⟩) ?_ ?_
          rotate_left
          · intro w'
            go_simp
            with_reducible rfl
          rotate_left
          · simp only [Act.put, List.setIfInBounds_toArray, List.set_cons_zero, List.set_cons_succ, i64_w, i32_w]
            rfl
          refine last_ (i := 9) (N := none) #[true, true, true, true, true, true, true, true, true, true] rfl rfl (by kernel_rfl) (by decide) (fun K hK => ?_)
          have z0d := blk_frozen (blk_drew HHH.out) 3
          refine skip_ (w1 := ?_) (by rfl) rfl ?_ ?_
          rotate_left
          · go_simp
            rfl
          refine hK.out _ _ ?_
          clear hK K
          refine done_ (by kernel_rfl) ?_
          have HHN := Aside0.mk (show ((wr.setCell ⟨bh, 3, none⟩ (.int .u32 v)).drew).heap[bh]? = some (.cells (hcells (iter (addf [a, b, c, d, e, f, g, k]) 4 s) part n).toArray 78 (0, 0)) from by rw [HNX.out, ← hc_set_s HSJ.out 3 (by decide)]; exact blk_drew (arr_put HHH.out 3 _))
          have HKN := Aside0.mk (show KeepBut w ((wr.setCell ⟨bh, 3, none⟩ (.int .u32 v)).drew) bh none from KeepBut.set_ HKE.out 3 _)
          have HBN := Aside0.mk (show Below w0.heap.size w0 ((wr.setCell ⟨bh, 3, none⟩ (.int .u32 v)).drew) from below_drew (HB5.out.setCell HG.out _))
          clear c0 c0d z0d hv hHeld HHH HKE HB5 HNX HSJ
          generalize (wr.setCell ⟨bh, 3, none⟩ (.int .u32 v)).drew = W5 at HHN HKN HBN ⊢
          go_wp2
          go_roundg (8 - 4)
          case measure => have := HJ.out; omega
          case rel => exact ⟨4, ⟨by omega, by have := HJ.out; omega⟩, by first | rfl | go_num, HHN, HKN, HBN⟩
        · have HSJ := Aside0.mk (show (iter (addf [a, b, c, d, e, f, g, k]) 4 s).length = 8 from addf_len _ 4 HSL.out)
          obtain ⟨ss, hss⟩ : ∃ ss, iter (addf [a, b, c, d, e, f, g, k]) 4 s = ss := ⟨_, rfl⟩
          have HNX := Aside0.mk (show iter (addf [a, b, c, d, e, f, g, k]) 5 s = ss.set 4 (IntKind.u32.wrap (ss.getD 4 0 + e)) by rw [← hss]; rfl)
          rw [hss] at HHH HSJ
          clear hss
          obtain ⟨y, hy⟩ : ∃ y : Int, ss.getD 4 0 = y := ⟨_, rfl⟩
          obtain ⟨v, hv⟩ : ∃ v : Int, IntKind.u32.wrap (y + e) = v := ⟨_, rfl⟩
          rw [hy, hv] at HNX
          have c0 : wr.cell? ⟨bh, 4, none⟩ = some (.int .u32 y) := by rw [← hy]; exact arr_cell HHH.out 4 (hc_s HSJ.out 4 (by decide))
          clear hy
          have hidx := fun W => idx4 a b c d e f g k W
          go_wp2
          clear hidx
          have c0d : wr.drew.cell? ⟨bh, 4, none⟩ = some (.int .u32 y) := c0
          refine start_ (n := 10) (S := fun w' => w'.cell? ⟨bh, 4, none⟩ = some (.int .u32 y)) (ds := [9]) #[false, false, false, false, false, false, false, false, false, false] (by kernel_rfl) rfl rfl c0d (fun hHeld => ?_)
          refine pure_ (i := 0) (N := some 128) (v := ?_) (a' := ?_) #[true, false, false, false, false, false, false, false, false, false] rfl rfl (by kernel_rfl) (fun _ _ _ h => h) (Or.inl ⟨by rfl, ?_⟩) ?_ ?_
          rotate_left
          · intro w'
            go_simp
            with_reducible rfl
          rotate_left
          · simp only [Act.put, List.setIfInBounds_toArray, List.set_cons_zero, List.set_cons_succ, i64_w, i32_w]
            rfl
          refine pure_ (i := 1) (N := some 129) (v := ?_) (a' := ?_) #[true, true, false, false, false, false, false, false, false, false] rfl rfl (by kernel_rfl) (fun _ _ _ h => h) (Or.inl ⟨by rfl, ?_⟩) ?_ ?_
          rotate_left
          · intro w'
            go_simp
            with_reducible rfl
          rotate_left
          · simp only [Act.put, List.setIfInBounds_toArray, List.set_cons_zero, List.set_cons_succ, i64_w, i32_w]
            rfl
          refine pure_ (i := 2) (N := some 130) (v := ?_) (a' := ?_) #[true, true, true, false, false, false, false, false, false, false] rfl rfl (by kernel_rfl) (fun _ _ _ h => h) (Or.inl ⟨by rfl, ?_⟩) ?_ ?_
          rotate_left
          · intro w'
            go_simp
            with_reducible rfl
          rotate_left
          · simp only [Act.put, List.setIfInBounds_toArray, List.set_cons_zero, List.set_cons_succ, i64_w, i32_w]
            rfl
          refine pure_ (i := 3) (N := some 131) (v := ?_) (a' := ?_) #[true, true, true, true, false, false, false, false, false, false] rfl rfl (by kernel_rfl) (fun _ _ _ h => h) (Or.inl ⟨by rfl, ?_⟩) ?_ ?_
          rotate_left
          · intro w'
            go_simp
            with_reducible rfl
          rotate_left
          · simp only [Act.put, List.setIfInBounds_toArray, List.set_cons_zero, List.set_cons_succ, i64_w, i32_w]
            rfl
          refine take_ (i := 4) (N := some 132) (v := ?_) (a' := ?_) #[true, true, true, true, true, false, false, false, false, false] rfl rfl (by kernel_rfl) (fun _ _ _ h => h) (Or.inl ⟨by rfl, ?_⟩) hHeld ?_ ?_
          rotate_left
          · intro w' s0
            go_simp
            with_reducible rfl
          rotate_left
          · simp only [Act.put, List.setIfInBounds_toArray, List.set_cons_zero, List.set_cons_succ, i64_w, i32_w]
            rfl
          refine pure_ (i := 5) (N := some 133) (v := ?_) (a' := ?_) #[true, true, true, true, true, true, false, false, false, false] rfl rfl (by kernel_rfl) (fun _ _ _ h => h) (Or.inl ⟨by rfl, ?_⟩) ?_ ?_
          rotate_left
          · intro w'
            go_simp
            with_reducible rfl
          rotate_left
          · simp only [Act.put, List.setIfInBounds_toArray, List.set_cons_zero, List.set_cons_succ, i64_w, i32_w]
            rfl
          refine pure_ (i := 6) (N := some 134) (v := ?_) (a' := ?_) #[true, true, true, true, true, true, true, false, false, false] rfl rfl (by kernel_rfl) (fun _ _ _ h => h) (Or.inl ⟨by rfl, ?_⟩) ?_ ?_
          rotate_left
          · intro w'
            go_simp
            with_reducible rfl
          rotate_left
          · simp only [Act.put, List.setIfInBounds_toArray, List.set_cons_zero, List.set_cons_succ, i64_w, i32_w]
            rfl
          refine pure_ (i := 7) (N := some 135) (v := ?_) (a' := ?_) #[true, true, true, true, true, true, true, true, false, false] rfl rfl (by kernel_rfl) (fun _ _ _ h => h) (Or.inl ⟨by rfl, ?_⟩) ?_ ?_
          rotate_left
          · intro w'
            go_simp
            with_reducible rfl
          rotate_left
          · simp only [Act.put, List.setIfInBounds_toArray, List.set_cons_zero, List.set_cons_succ, i64_w, i32_w]
            rfl
          refine pure_ (i := 8) (N := some 136) (v := ?_) (a' := ?_) #[true, true, true, true, true, true, true, true, true, false] rfl rfl (by kernel_rfl) (fun _ _ _ h => h) (Or.inl ⟨by rfl, ?_⟩) ?_ ?_
          rotate_left
          · intro w'
            go_simp
            with_reducible rfl
          rotate_left
          · simp only [Act.put, List.setIfInBounds_toArray, List.set_cons_zero, List.set_cons_succ, i64_w, i32_w]
            rfl
          refine last_ (i := 9) (N := none) #[true, true, true, true, true, true, true, true, true, true] rfl rfl (by kernel_rfl) (by decide) (fun K hK => ?_)
          have z0d := blk_frozen (blk_drew HHH.out) 4
          refine skip_ (w1 := ?_) (by rfl) rfl ?_ ?_
          rotate_left
          · go_simp
            rfl
          refine hK.out _ _ ?_
          clear hK K
          refine done_ (by kernel_rfl) ?_
          have HHN := Aside0.mk (show ((wr.setCell ⟨bh, 4, none⟩ (.int .u32 v)).drew).heap[bh]? = some (.cells (hcells (iter (addf [a, b, c, d, e, f, g, k]) 5 s) part n).toArray 78 (0, 0)) from by rw [HNX.out, ← hc_set_s HSJ.out 4 (by decide)]; exact blk_drew (arr_put HHH.out 4 _))
          have HKN := Aside0.mk (show KeepBut w ((wr.setCell ⟨bh, 4, none⟩ (.int .u32 v)).drew) bh none from KeepBut.set_ HKE.out 4 _)
          have HBN := Aside0.mk (show Below w0.heap.size w0 ((wr.setCell ⟨bh, 4, none⟩ (.int .u32 v)).drew) from below_drew (HB5.out.setCell HG.out _))
          clear c0 c0d z0d hv hHeld HHH HKE HB5 HNX HSJ
          generalize (wr.setCell ⟨bh, 4, none⟩ (.int .u32 v)).drew = W5 at HHN HKN HBN ⊢
          go_wp2
          go_roundg (8 - 5)
          case measure => have := HJ.out; omega
          case rel => exact ⟨5, ⟨by omega, by have := HJ.out; omega⟩, by first | rfl | go_num, HHN, HKN, HBN⟩
        · have HSJ := Aside0.mk (show (iter (addf [a, b, c, d, e, f, g, k]) 5 s).length = 8 from addf_len _ 5 HSL.out)
          obtain ⟨ss, hss⟩ : ∃ ss, iter (addf [a, b, c, d, e, f, g, k]) 5 s = ss := ⟨_, rfl⟩
          have HNX := Aside0.mk (show iter (addf [a, b, c, d, e, f, g, k]) 6 s = ss.set 5 (IntKind.u32.wrap (ss.getD 5 0 + f)) by rw [← hss]; rfl)
          rw [hss] at HHH HSJ
          clear hss
          obtain ⟨y, hy⟩ : ∃ y : Int, ss.getD 5 0 = y := ⟨_, rfl⟩
          obtain ⟨v, hv⟩ : ∃ v : Int, IntKind.u32.wrap (y + f) = v := ⟨_, rfl⟩
          rw [hy, hv] at HNX
          have c0 : wr.cell? ⟨bh, 5, none⟩ = some (.int .u32 y) := by rw [← hy]; exact arr_cell HHH.out 5 (hc_s HSJ.out 5 (by decide))
          clear hy
          have hidx := fun W => idx5 a b c d e f g k W
          go_wp2
          clear hidx
          have c0d : wr.drew.cell? ⟨bh, 5, none⟩ = some (.int .u32 y) := c0
          refine start_ (n := 10) (S := fun w' => w'.cell? ⟨bh, 5, none⟩ = some (.int .u32 y)) (ds := [9]) #[false, false, false, false, false, false, false, false, false, false] (by kernel_rfl) rfl rfl c0d (fun hHeld => ?_)
          refine pure_ (i := 0) (N := some 128) (v := ?_) (a' := ?_) #[true, false, false, false, false, false, false, false, false, false] rfl rfl (by kernel_rfl) (fun _ _ _ h => h) (Or.inl ⟨by rfl, ?_⟩) ?_ ?_
          rotate_left
          · intro w'
            go_simp
            with_reducible rfl
          rotate_left
          · simp only [Act.put, List.setIfInBounds_toArray, List.set_cons_zero, List.set_cons_succ, i64_w, i32_w]
            rfl
          refine pure_ (i := 1) (N := some 129) (v := ?_) (a' := ?_) #[true, true, false, false, false, false, false, false, false, false] rfl rfl (by kernel_rfl) (fun _ _ _ h => h) (Or.inl ⟨by rfl, ?_⟩) ?_ ?_
          rotate_left
          · intro w'
            go_simp
            with_reducible rfl
          rotate_left
          · simp only [Act.put, List.setIfInBounds_toArray, List.set_cons_zero, List.set_cons_succ, i64_w, i32_w]
            rfl
          refine pure_ (i := 2) (N := some 130) (v := ?_) (a' := ?_) #[true, true, true, false, false, false, false, false, false, false] rfl rfl (by kernel_rfl) (fun _ _ _ h => h) (Or.inl ⟨by rfl, ?_⟩) ?_ ?_
          rotate_left
          · intro w'
            go_simp
            with_reducible rfl
          rotate_left
          · simp only [Act.put, List.setIfInBounds_toArray, List.set_cons_zero, List.set_cons_succ, i64_w, i32_w]
            rfl
          refine pure_ (i := 3) (N := some 131) (v := ?_) (a' := ?_) #[true, true, true, true, false, false, false, false, false, false] rfl rfl (by kernel_rfl) (fun _ _ _ h => h) (Or.inl ⟨by rfl, ?_⟩) ?_ ?_
          rotate_left
          · intro w'
            go_simp
            with_reducible rfl
          rotate_left
          · simp only [Act.put, List.setIfInBounds_toArray, List.set_cons_zero, List.set_cons_succ, i64_w, i32_w]
            rfl
          refine take_ (i := 4) (N := some 132) (v := ?_) (a' := ?_) #[true, true, true, true, true, false, false, false, false, false] rfl rfl (by kernel_rfl) (fun _ _ _ h => h) (Or.inl ⟨by rfl, ?_⟩) hHeld ?_ ?_
          rotate_left
          · intro w' s0
            go_simp
            with_reducible rfl
          rotate_left
          · simp only [Act.put, List.setIfInBounds_toArray, List.set_cons_zero, List.set_cons_succ, i64_w, i32_w]
            rfl
          refine pure_ (i := 5) (N := some 133) (v := ?_) (a' := ?_) #[true, true, true, true, true, true, false, false, false, false] rfl rfl (by kernel_rfl) (fun _ _ _ h => h) (Or.inl ⟨by rfl, ?_⟩) ?_ ?_
          rotate_left
          · intro w'
            go_simp
            with_reducible rfl
          rotate_left
          · simp only [Act.put, List.setIfInBounds_toArray, List.set_cons_zero, List.set_cons_succ, i64_w, i32_w]
            rfl
          refine pure_ (i := 6) (N := some 134) (v := ?_) (a' := ?_) #[true, true, true, true, true, true, true, false, false, false] rfl rfl (by kernel_rfl) (fun _ _ _ h => h) (Or.inl ⟨by rfl, ?_⟩) ?_ ?_
          rotate_left
          · intro w'
            go_simp
            with_reducible rfl
          rotate_left
          · simp only [Act.put, List.setIfInBounds_toArray, List.set_cons_zero, List.set_cons_succ, i64_w, i32_w]
            rfl
          refine pure_ (i := 7) (N := some 135) (v := ?_) (a' := ?_) #[true, true, true, true, true, true, true, true, false, false] rfl rfl (by kernel_rfl) (fun _ _ _ h => h) (Or.inl ⟨by rfl, ?_⟩) ?_ ?_
          rotate_left
          · intro w'
            go_simp
            with_reducible rfl
          rotate_left
          · simp only [Act.put, List.setIfInBounds_toArray, List.set_cons_zero, List.set_cons_succ, i64_w, i32_w]
            rfl
          refine pure_ (i := 8) (N := some 136) (v := ?_) (a' := ?_) #[true, true, true, true, true, true, true, true, true, false] rfl rfl (by kernel_rfl) (fun _ _ _ h => h) (Or.inl ⟨by rfl, ?_⟩) ?_ ?_
          rotate_left
          · intro w'
            go_simp
            with_reducible rfl
          rotate_left
          · simp only [Act.put, List.setIfInBounds_toArray, List.set_cons_zero, List.set_cons_succ, i64_w, i32_w]
            rfl
          refine last_ (i := 9) (N := none) #[true, true, true, true, true, true, true, true, true, true] rfl rfl (by kernel_rfl) (by decide) (fun K hK => ?_)
          have z0d := blk_frozen (blk_drew HHH.out) 5
          refine skip_ (w1 := ?_) (by rfl) rfl ?_ ?_
          rotate_left
          · go_simp
            rfl
          refine hK.out _ _ ?_
          clear hK K
          refine done_ (by kernel_rfl) ?_
          have HHN := Aside0.mk (show ((wr.setCell ⟨bh, 5, none⟩ (.int .u32 v)).drew).heap[bh]? = some (.cells (hcells (iter (addf [a, b, c, d, e, f, g, k]) 6 s) part n).toArray 78 (0, 0)) from by rw [HNX.out, ← hc_set_s HSJ.out 5 (by decide)]; exact blk_drew (arr_put HHH.out 5 _))
          have HKN := Aside0.mk (show KeepBut w ((wr.setCell ⟨bh, 5, none⟩ (.int .u32 v)).drew) bh none from KeepBut.set_ HKE.out 5 _)
          have HBN := Aside0.mk (show Below w0.heap.size w0 ((wr.setCell ⟨bh, 5, none⟩ (.int .u32 v)).drew) from below_drew (HB5.out.setCell HG.out _))
          clear c0 c0d z0d hv hHeld HHH HKE HB5 HNX HSJ
          generalize (wr.setCell ⟨bh, 5, none⟩ (.int .u32 v)).drew = W5 at HHN HKN HBN ⊢
          go_wp2
          go_roundg (8 - 6)
          case measure => have := HJ.out; omega
          case rel => exact ⟨6, ⟨by omega, by have := HJ.out; omega⟩, by first | rfl | go_num, HHN, HKN, HBN⟩
        · have HSJ := Aside0.mk (show (iter (addf [a, b, c, d, e, f, g, k]) 6 s).length = 8 from addf_len _ 6 HSL.out)
          obtain ⟨ss, hss⟩ : ∃ ss, iter (addf [a, b, c, d, e, f, g, k]) 6 s = ss := ⟨_, rfl⟩
          have HNX := Aside0.mk (show iter (addf [a, b, c, d, e, f, g, k]) 7 s = ss.set 6 (IntKind.u32.wrap (ss.getD 6 0 + g)) by rw [← hss]; rfl)
          rw [hss] at HHH HSJ
          clear hss
          obtain ⟨y, hy⟩ : ∃ y : Int, ss.getD 6 0 = y := ⟨_, rfl⟩
          obtain ⟨v, hv⟩ : ∃ v : Int, IntKind.u32.wrap (y + g) = v := ⟨_, rfl⟩
          rw [hy, hv] at HNX
          have c0 : wr.cell? ⟨bh, 6, none⟩ = some (.int .u32 y) := by rw [← hy]; exact arr_cell HHH.out 6 (hc_s HSJ.out 6 (by decide))
          clear hy
          have hidx := fun W => idx6 a b c d e f g k W
          go_wp2
          clear hidx
          have c0d : wr.drew.cell? ⟨bh, 6, none⟩ = some (.int .u32 y) := c0
          refine start_ (n := 10) (S := fun w' => w'.cell? ⟨bh, 6, none⟩ = some (.int .u32 y)) (ds := [9]) #[false, false, false, false, false, false, false, false, false, false] (by kernel_rfl) rfl rfl c0d (fun hHeld => ?_)
          refine pure_ (i := 0) (N := some 128) (v := ?_) (a' := ?_) #[true, false, false, false, false, false, false, false, false, false] rfl rfl (by kernel_rfl) (fun _ _ _ h => h) (Or.inl ⟨by rfl, ?_⟩) ?_ ?_
          rotate_left
          · intro w'
            go_simp
            with_reducible rfl
          rotate_left
          · simp only [Act.put, List.setIfInBounds_toArray, List.set_cons_zero, List.set_cons_succ, i64_w, i32_w]
            rfl
          refine pure_ (i := 1) (N := some 129) (v := ?_) (a' := ?_) #[true, true, false, false, false, false, false, false, false, false] rfl rfl (by kernel_rfl) (fun _ _ _ h => h) (Or.inl ⟨by rfl, ?_⟩) ?_ ?_
          rotate_left
          · intro w'
            go_simp
            with_reducible rfl
          rotate_left
          · simp only [Act.put, List.setIfInBounds_toArray, List.set_cons_zero, List.set_cons_succ, i64_w, i32_w]
            rfl
          refine pure_ (i := 2) (N := some 130) (v := ?_) (a' := ?_) #[true, true, true, false, false, false, false, false, false, false] rfl rfl (by kernel_rfl) (fun _ _ _ h => h) (Or.inl ⟨by rfl, ?_⟩) ?_ ?_
          rotate_left
          · intro w'
            go_simp
            with_reducible rfl
          rotate_left
          · simp only [Act.put, List.setIfInBounds_toArray, List.set_cons_zero, List.set_cons_succ, i64_w, i32_w]
            rfl
          refine pure_ (i := 3) (N := some 131) (v := ?_) (a' := ?_) #[true, true, true, true, false, false, false, false, false, false] rfl rfl (by kernel_rfl) (fun _ _ _ h => h) (Or.inl ⟨by rfl, ?_⟩) ?_ ?_
          rotate_left
          · intro w'
            go_simp
            with_reducible rfl
          rotate_left
          · simp only [Act.put, List.setIfInBounds_toArray, List.set_cons_zero, List.set_cons_succ, i64_w, i32_w]
            rfl
          refine take_ (i := 4) (N := some 132) (v := ?_) (a' := ?_) #[true, true, true, true, true, false, false, false, false, false] rfl rfl (by kernel_rfl) (fun _ _ _ h => h) (Or.inl ⟨by rfl, ?_⟩) hHeld ?_ ?_
          rotate_left
          · intro w' s0
            go_simp
            with_reducible rfl
          rotate_left
          · simp only [Act.put, List.setIfInBounds_toArray, List.set_cons_zero, List.set_cons_succ, i64_w, i32_w]
            rfl
          refine pure_ (i := 5) (N := some 133) (v := ?_) (a' := ?_) #[true, true, true, true, true, true, false, false, false, false] rfl rfl (by kernel_rfl) (fun _ _ _ h => h) (Or.inl ⟨by rfl, ?_⟩) ?_ ?_
          rotate_left
          · intro w'
            go_simp
            with_reducible rfl
          rotate_left
          · simp only [Act.put, List.setIfInBounds_toArray, List.set_cons_zero, List.set_cons_succ, i64_w, i32_w]
            rfl
          refine pure_ (i := 6) (N := some 134) (v := ?_) (a' := ?_) #[true, true, true, true, true, true, true, false, false, false] rfl rfl (by kernel_rfl) (fun _ _ _ h => h) (Or.inl ⟨by rfl, ?_⟩) ?_ ?_
          rotate_left
          · intro w'
            go_simp
            with_reducible rfl
          rotate_left
          · simp only [Act.put, List.setIfInBounds_toArray, List.set_cons_zero, List.set_cons_succ, i64_w, i32_w]
            rfl
          refine pure_ (i := 7) (N := some 135) (v := ?_) (a' := ?_) #[true, true, true, true, true, true, true, true, false, false] rfl rfl (by kernel_rfl) (fun _ _ _ h => h) (Or.inl ⟨by rfl, ?_⟩) ?_ ?_
          rotate_left
          · intro w'
            go_simp
            with_reducible rfl
          rotate_left
          · simp only [Act.put, List.setIfInBounds_toArray, List.set_cons_zero, List.set_cons_succ, i64_w, i32_w]
            rfl
          refine pure_ (i := 8) (N := some 136) (v := ?_) (a' := ?_) #[true, true, true, true, true, true, true, true, true, false] rfl rfl (by kernel_rfl) (fun _ _ _ h => h) (Or.inl ⟨by rfl, ?_⟩) ?_ ?_
          rotate_left
          · intro w'
            go_simp
            with_reducible rfl
          rotate_left
          · simp only [Act.put, List.setIfInBounds_toArray, List.set_cons_zero, List.set_cons_succ, i64_w, i32_w]
            rfl
          refine last_ (i := 9) (N := none) #[true, true, true, true, true, true, true, true, true, true] rfl rfl (by kernel_rfl) (by decide) (fun K hK => ?_)
          have z0d := blk_frozen (blk_drew HHH.out) 6
          refine skip_ (w1 := ?_) (by rfl) rfl ?_ ?_
          rotate_left
          · go_simp
            rfl
          refine hK.out _ _ ?_
          clear hK K
          refine done_ (by kernel_rfl) ?_
          have HHN := Aside0.mk (show ((wr.setCell ⟨bh, 6, none⟩ (.int .u32 v)).drew).heap[bh]? = some (.cells (hcells (iter (addf [a, b, c, d, e, f, g, k]) 7 s) part n).toArray 78 (0, 0)) from by rw [HNX.out, ← hc_set_s HSJ.out 6 (by decide)]; exact blk_drew (arr_put HHH.out 6 _))
          have HKN := Aside0.mk (show KeepBut w ((wr.setCell ⟨bh, 6, none⟩ (.int .u32 v)).drew) bh none from KeepBut.set_ HKE.out 6 _)
          have HBN := Aside0.mk (show Below w0.heap.size w0 ((wr.setCell ⟨bh, 6, none⟩ (.int .u32 v)).drew) from below_drew (HB5.out.setCell HG.out _))
          clear c0 c0d z0d hv hHeld HHH HKE HB5 HNX HSJ
          generalize (wr.setCell ⟨bh, 6, none⟩ (.int .u32 v)).drew = W5 at HHN HKN HBN ⊢
          go_wp2
          go_roundg (8 - 7)
          case measure => have := HJ.out; omega
          case rel => exact ⟨7, ⟨by omega, by have := HJ.out; omega⟩, by first | rfl | go_num, HHN, HKN, HBN⟩
        · have HSJ := Aside0.mk (show (iter (addf [a, b, c, d, e, f, g, k]) 7 s).length = 8 from addf_len _ 7 HSL.out)
          obtain ⟨ss, hss⟩ : ∃ ss, iter (addf [a, b, c, d, e, f, g, k]) 7 s = ss := ⟨_, rfl⟩
          have HNX := Aside0.mk (show iter (addf [a, b, c, d, e, f, g, k]) 8 s = ss.set 7 (IntKind.u32.wrap (ss.getD 7 0 + k)) by rw [← hss]; rfl)
          rw [hss] at HHH HSJ
          clear hss
          obtain ⟨y, hy⟩ : ∃ y : Int, ss.getD 7 0 = y := ⟨_, rfl⟩
          obtain ⟨v, hv⟩ : ∃ v : Int, IntKind.u32.wrap (y + k) = v := ⟨_, rfl⟩
          rw [hy, hv] at HNX
          have c0 : wr.cell? ⟨bh, 7, none⟩ = some (.int .u32 y) := by rw [← hy]; exact arr_cell HHH.out 7 (hc_s HSJ.out 7 (by decide))
          clear hy
          have hidx := fun W => idx7 a b c d e f g k W
          go_wp2
          clear hidx
          have c0d : wr.drew.cell? ⟨bh, 7, none⟩ = some (.int .u32 y) := c0
          refine start_ (n := 10) (S := fun w' => w'.cell? ⟨bh, 7, none⟩ = some (.int .u32 y)) (ds := [9]) #[false, false, false, false, false, false, false, false, false, false] (by kernel_rfl) rfl rfl c0d (fun hHeld => ?_)
          refine pure_ (i := 0) (N := some 128) (v := ?_) (a' := ?_) #[true, false, false, false, false, false, false, false, false, false] rfl rfl (by kernel_rfl) (fun _ _ _ h => h) (Or.inl ⟨by rfl, ?_⟩) ?_ ?_
          rotate_left
          · intro w'
            go_simp
            with_reducible rfl
          rotate_left
          · simp only [Act.put, List.setIfInBounds_toArray, List.set_cons_zero, List.set_cons_succ, i64_w, i32_w]
            rfl
          refine pure_ (i := 1) (N := some 129) (v := ?_) (a' := ?_) #[true, true, false, false, false, false, false, false, false, false] rfl rfl (by kernel_rfl) (fun _ _ _ h => h) (Or.inl ⟨by rfl, ?_⟩) ?_ ?_
          rotate_left
          · intro w'
            go_simp
            with_reducible rfl
          rotate_left
          · simp only [Act.put, List.setIfInBounds_toArray, List.set_cons_zero, List.set_cons_succ, i64_w, i32_w]
            rfl
          refine pure_ (i := 2) (N := some 130) (v := ?_) (a' := ?_) #[true, true, true, false, false, false, false, false, false, false] rfl rfl (by kernel_rfl) (fun _ _ _ h => h) (Or.inl ⟨by rfl, ?_⟩) ?_ ?_
          rotate_left
          · intro w'
            go_simp
            with_reducible rfl
          rotate_left
          · simp only [Act.put, List.setIfInBounds_toArray, List.set_cons_zero, List.set_cons_succ, i64_w, i32_w]
            rfl
          refine pure_ (i := 3) (N := some 131) (v := ?_) (a' := ?_) #[true, true, true, true, false, false, false, false, false, false] rfl rfl (by kernel_rfl) (fun _ _ _ h => h) (Or.inl ⟨by rfl, ?_⟩) ?_ ?_
          rotate_left
          · intro w'
            go_simp
            with_reducible rfl
          rotate_left
          · simp only [Act.put, List.setIfInBounds_toArray, List.set_cons_zero, List.set_cons_succ, i64_w, i32_w]
            rfl
          refine take_ (i := 4) (N := some 132) (v := ?_) (a' := ?_) #[true, true, true, true, true, false, false, false, false, false] rfl rfl (by kernel_rfl) (fun _ _ _ h => h) (Or.inl ⟨by rfl, ?_⟩) hHeld ?_ ?_
          rotate_left
          · intro w' s0
            go_simp
            with_reducible rfl
          rotate_left
          · simp only [Act.put, List.setIfInBounds_toArray, List.set_cons_zero, List.set_cons_succ, i64_w, i32_w]
            rfl
          refine pure_ (i := 5) (N := some 133) (v := ?_) (a' := ?_) #[true, true, true, true, true, true, false, false, false, false] rfl rfl (by kernel_rfl) (fun _ _ _ h => h) (Or.inl ⟨by rfl, ?_⟩) ?_ ?_
          rotate_left
          · intro w'
            go_simp
            with_reducible rfl
          rotate_left
          · simp only [Act.put, List.setIfInBounds_toArray, List.set_cons_zero, List.set_cons_succ, i64_w, i32_w]
            rfl
          refine pure_ (i := 6) (N := some 134) (v := ?_) (a' := ?_) #[true, true, true, true, true, true, true, false, false, false] rfl rfl (by kernel_rfl) (fun _ _ _ h => h) (Or.inl ⟨by rfl, ?_⟩) ?_ ?_
          rotate_left
          · intro w'
            go_simp
            with_reducible rfl
          rotate_left
          · simp only [Act.put, List.setIfInBounds_toArray, List.set_cons_zero, List.set_cons_succ, i64_w, i32_w]
            rfl
          refine pure_ (i := 7) (N := some 135) (v := ?_) (a' := ?_) #[true, true, true, true, true, true, true, true, false, false] rfl rfl (by kernel_rfl) (fun _ _ _ h => h) (Or.inl ⟨by rfl, ?_⟩) ?_ ?_
          rotate_left
          · intro w'
            go_simp
            with_reducible rfl
          rotate_left
          · simp only [Act.put, List.setIfInBounds_toArray, List.set_cons_zero, List.set_cons_succ, i64_w, i32_w]
            rfl
          refine pure_ (i := 8) (N := some 136) (v := ?_) (a' := ?_) #[true, true, true, true, true, true, true, true, true, false] rfl rfl (by kernel_rfl) (fun _ _ _ h => h) (Or.inl ⟨by rfl, ?_⟩) ?_ ?_
          rotate_left
          · intro w'
            go_simp
            with_reducible rfl
          rotate_left
          · simp only [Act.put, List.setIfInBounds_toArray, List.set_cons_zero, List.set_cons_succ, i64_w, i32_w]
            rfl
          refine last_ (i := 9) (N := none) #[true, true, true, true, true, true, true, true, true, true] rfl rfl (by kernel_rfl) (by decide) (fun K hK => ?_)
          have z0d := blk_frozen (blk_drew HHH.out) 7
          refine skip_ (w1 := ?_) (by rfl) rfl ?_ ?_
          rotate_left
          · go_simp
            rfl
          refine hK.out _ _ ?_
          clear hK K
          refine done_ (by kernel_rfl) ?_
          have HHN := Aside0.mk (show ((wr.setCell ⟨bh, 7, none⟩ (.int .u32 v)).drew).heap[bh]? = some (.cells (hcells (iter (addf [a, b, c, d, e, f, g, k]) 8 s) part n).toArray 78 (0, 0)) from by rw [HNX.out, ← hc_set_s HSJ.out 7 (by decide)]; exact blk_drew (arr_put HHH.out 7 _))
          have HKN := Aside0.mk (show KeepBut w ((wr.setCell ⟨bh, 7, none⟩ (.int .u32 v)).drew) bh none from KeepBut.set_ HKE.out 7 _)
          have HBN := Aside0.mk (show Below w0.heap.size w0 ((wr.setCell ⟨bh, 7, none⟩ (.int .u32 v)).drew) from below_drew (HB5.out.setCell HG.out _))
          clear c0 c0d z0d hv hHeld HHH HKE HB5 HNX HSJ
          generalize (wr.setCell ⟨bh, 7, none⟩ (.int .u32 v)).drew = W5 at HHN HKN HBN ⊢
          go_wp2
          go_roundg (8 - 8)
          case measure => have := HJ.out; omega
          case rel => exact ⟨8, ⟨by omega, by have := HJ.out; omega⟩, by first | rfl | go_num, HHN, HKN, HBN⟩
        · go_wp2
          first | go_end0 | ((try simp only [Exit.inBlock, Exit.then]); refine bodyPost_ret (results_none rfl _ _ _) rfl ?_)
          all_goals exact ⟨rfl, by rw [HTF.out]; exact HHH.out, HKE.out, HB5.out⟩
end Go.Proofs.YtoigoiefnapokaaDoor.T
