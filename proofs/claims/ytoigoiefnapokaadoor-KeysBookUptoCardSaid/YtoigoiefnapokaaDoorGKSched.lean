/- The walk of digest.schedule. -/
import Derived.Test.YtoigoiefnapokaaDoorGKBase
set_option linter.unusedVariables false
set_option linter.unusedSimpArgs false
namespace Go.Proofs.YtoigoiefnapokaaDoor.T
open Go.RowKit Go.Proofs.YtoigoiefnapokaaDoorW.PrintWords Go.Proofs.YtoigoiefnapokaaDoorW.PrintLast
section
variable {P : Program} {ops : Array Oper} {rest : List Oper} {o : Oper} {a : Act} {Q : Exit → Act → World → Prop}
theorem put_row {w : World} (hgd : o.guard = none) (ty : TypeId) (x y : Operand) (ho : o.op = .store ty x y) (g : Nat) (cells : Array Value) (hx : a.eval x = .pointer (some ⟨g, 0, none⟩)) (hy : a.eval y = .agg cells)
    (t : TypeId) (old : Array Value) (hg : w.heap[g]? = some (.cells old t (0, 0))) (hi : (P.info? ty).map (·.size) = some cells.size) (hold : old.size = cells.size) (h1 : cells.all (·.oneCell') = true)
    (h : wpList P ops Q rest (a.put o.dst undef) (w.setRow g cells)) : wpList P ops Q (o :: rest) a w :=
  wpList_plain hgd fun K hK => wp_store_row ty x y ho g cells hx hy t old hg hi hold h1 (hK _ _ h)
end
theorem below_row {w W : World} {b : Nat} (h : Below w.heap.size w W) (hb : w.heap.size ≤ b) (cs : Array Value) : Below w.heap.size w (W.setRow b cs) :=
  h.trans ⟨rfl, rfl, rfl, by simp [World.setRow], fun i hi => setRow_other W b i cs (by omega)⟩
def word (bs : List Int) (i : Nat) : Int := Go.bits .or .u32 (Go.bits .or .u32 (Go.bits .or .u32 (IntKind.u32.wrap (IntKind.u32.wrap (bs.getD (4 * i) 0) * 16777216)) (IntKind.u32.wrap (IntKind.u32.wrap (bs.getD (4 * i + 1) 0) * 65536))) (IntKind.u32.wrap (IntKind.u32.wrap (bs.getD (4 * i + 2) 0) * 256))) (IntKind.u32.wrap (bs.getD (4 * i + 3) 0))
def schedA (bs : List Int) (i : Nat) (xs : List Int) : List Int := xs.set i (word bs i)
theorem schedA_len (bs : List Int) (j : Nat) : (iter (schedA bs) j (List.replicate 64 0)).length = 64 :=
  iter_inv (p := fun x : List Int => x.length = 64) (fun i x h => by simp [schedA, h]) j _ (by simp)
def schedB (j : Nat) (xs : List Int) : List Int := xs.set (j + 16) (IntKind.u32.wrap (IntKind.u32.wrap (IntKind.u32.wrap (xs.getD j 0 + Go.bits .xor .u32 (Go.bits .xor .u32 (rotf (xs.getD (j + 1) 0) 7) (rotf (xs.getD (j + 1) 0) 18)) (xs.getD (j + 1) 0 / 8)) + xs.getD (j + 9) 0) + Go.bits .xor .u32 (Go.bits .xor .u32 (rotf (xs.getD (j + 14) 0) 17) (rotf (xs.getD (j + 14) 0) 19)) (xs.getD (j + 14) 0 / 1024)))
theorem schedB_len (bs : List Int) (j : Nat) : (iter schedB j (iter (schedA bs) 16 (List.replicate 64 0))).length = 64 :=
  iter_inv (p := fun x : List Int => x.length = 64) (fun i x h => by simp [schedB, h]) j _ (schedA_len bs 16)
def schedf (bs : List Int) : List Int := iter schedB 48 (iter (schedA bs) 16 (List.replicate 64 0))
set_option maxHeartbeats 4000000 in
set_option maxRecDepth 100000 in
theorem schedule_calls (h o : Nat) (bs : List Int) (w : World) (hbs : bs.length = 64) (hR : ∀ j, j < 64 → w.cell? ⟨h, o + j, none⟩ = some (.int .u8 (bs.getD j 0))) :
    Calls Tryd.prog 40 #[.slice (some ⟨h, o, none⟩) 64 64] w fun e w' => e = .returned (.agg (nums .u32 (schedf bs)).toArray) ∧ Below w.heap.size w w' := by
  have hlt0 : h < w.heap.size := World.block_lt_of_cell? w _ (hR 0 (by omega))
  have HR := Aside0.mk hR
  clear hR
  go_enter Tryd.func40, Tryd.ntmps40
  go_wp2_with (first
    | ((with_reducible refine gate_dst (N := 2) rfl ?_); refine box_event ?hg (N := 2) ?hd (cs := (nums .u32 (List.replicate 64 0)).toArray) (t := 87) ?hr ?_; (case hd => rfl); (case hg => rfl); (case hr => first | (go_simp; done) | (go_simp; rfl)); intro b2 hb w2 hbox hbl; have HX2 := Aside0.mk hbox; have HB2 := Aside0.mk hbl; have G2 := Aside0.mk (show w.heap.size ≤ b2 by omega); clear hb hbox hbl)
    | ((with_reducible refine gate_dst (N := 3) rfl ?_); refine box_event ?hg (N := 3) ?hd (cs := (nums .u32 (List.replicate 64 0)).toArray) (t := 87) ?hr ?_; (case hd => rfl); (case hg => rfl); (case hr => first | (go_simp; done) | (go_simp; rfl)); intro b3 hb w3 hbox hbl; have HX3 := Aside0.mk hbox; have HB3 := Aside0.mk (below_step HB2.out hbl); have G3 := Aside0.mk (show w.heap.size ≤ b3 by have := HB2.out.size; omega); have HLT3 := Aside0.mk (show b2 < b3 by have := blk_lt HX2.out; omega); replace HX2 := Aside0.mk (blk_below HX2.out hbl); clear hb hbox hbl))
  go_loopg [10] 16 (fun gg s10 wr => ∃ (i : Nat), Aside0 (i ≤ 16 ∧ 16 - i ≤ gg) ∧ s10 = .int .i64 (i : Int) ∧ Aside0 (Below w.heap.size w wr) ∧ Aside0 (wr.heap[b2]? = some (.cells (nums .u32 (List.replicate 64 0)).toArray 87 (0, 0))) ∧ Aside0 (wr.heap[b3]? = some (.cells (nums .u32 (iter (schedA bs) i (List.replicate 64 0))).toArray 87 (0, 0))))
  case atStart => exact ⟨0, ⟨by omega, by omega⟩, rfl, HB3, HX2, HX3⟩
  case round =>
    obtain ⟨i, HI, rfl, HB, H2, HX⟩ := hrel
    by_cases hlt : (i : Int) < 16
    · have hltb : decide ((i : Int) < 16) = true := decide_eq_true hlt
      have hi : i < 16 := by omega
      have p0 : (0 : Int) ≤ (i : Int) := by omega
      obtain ⟨N0, hN0⟩ : ∃ N : Nat, N = 4 * i := ⟨_, rfl⟩
      obtain ⟨x0, hx0⟩ : ∃ x : Int, bs.getD (4 * i) 0 = x := ⟨_, rfl⟩
      have c0 : wr.cell? ⟨h, o + N0, none⟩ = some (.int .u8 x0) := by rw [← hx0, hN0]; exact pw_cell_below HB.out (HR.out _ (by omega))
      obtain ⟨N1, hN1⟩ : ∃ N : Nat, N = 4 * i + 1 := ⟨_, rfl⟩
      obtain ⟨x1, hx1⟩ : ∃ x : Int, bs.getD (4 * i + 1) 0 = x := ⟨_, rfl⟩
      have c1 : wr.cell? ⟨h, o + N1, none⟩ = some (.int .u8 x1) := by rw [← hx1, hN1]; exact pw_cell_below HB.out (HR.out _ (by omega))
      obtain ⟨N2, hN2⟩ : ∃ N : Nat, N = 4 * i + 2 := ⟨_, rfl⟩
      obtain ⟨x2, hx2⟩ : ∃ x : Int, bs.getD (4 * i + 2) 0 = x := ⟨_, rfl⟩
      have c2 : wr.cell? ⟨h, o + N2, none⟩ = some (.int .u8 x2) := by rw [← hx2, hN2]; exact pw_cell_below HB.out (HR.out _ (by omega))
      obtain ⟨N3, hN3⟩ : ∃ N : Nat, N = 4 * i + 3 := ⟨_, rfl⟩
      obtain ⟨x3, hx3⟩ : ∃ x : Int, bs.getD (4 * i + 3) 0 = x := ⟨_, rfl⟩
      have c3 : wr.cell? ⟨h, o + N3, none⟩ = some (.int .u8 x3) := by rw [← hx3, hN3]; exact pw_cell_below HB.out (HR.out _ (by omega))
      have a0 : (0 : Int) ≤ (N0 : Int) := by omega
      have f0 : (N0 : Int) < 64 := by omega
      have d0 : N0 < 64 := by omega
      have a1 : (0 : Int) ≤ (N1 : Int) := by omega
      have f1 : (N1 : Int) < 64 := by omega
      have d1 : N1 < 64 := by omega
      have a2 : (0 : Int) ≤ (N2 : Int) := by omega
      have f2 : (N2 : Int) < 64 := by omega
      have d2 : N2 < 64 := by omega
      have a3 : (0 : Int) ≤ (N3 : Int) := by omega
      have f3 : (N3 : Int) < 64 := by omega
      have d3 : N3 < 64 := by omega
      have e0 : (i : Int) < 64 := by omega
      have hc := row_cell HX.out i (by rw [schedA_len]; omega)
      have hz := blk_frozen HX.out i
      have e10 : 4 * (i : Int) = (N0 : Int) := by omega
      have e11 : (N0 : Int) + 1 = (N1 : Int) := by omega
      have e12 : (N0 : Int) + 2 = (N2 : Int) := by omega
      have e13 : (N0 : Int) + 3 = (N3 : Int) := by omega
      have en : (i : Int) + 1 = ((i + 1 : Nat) : Int) := by omega
      have m0 : N0 ≤ 9223372036854775807 := by omega
      have m1 : N1 ≤ 9223372036854775807 := by omega
      have m2 : N2 ≤ 9223372036854775807 := by omega
      have m3 : N3 ≤ 9223372036854775807 := by omega
      have mn : i + 1 ≤ 9223372036854775807 := by omega
      have hne : h ≠ b3 := by have := G3.out; omega
      have hne' := Ne.symm hne
      have HN := Aside0.mk (And.intro hN0 (And.intro hN1 (And.intro hN2 hN3)))
      obtain ⟨y0, hy0⟩ : ∃ y : Int, IntKind.u32.wrap (IntKind.u32.wrap x0 * 16777216) = y := ⟨_, rfl⟩
      obtain ⟨y1, hy1⟩ : ∃ y : Int, IntKind.u32.wrap (IntKind.u32.wrap x1 * 65536) = y := ⟨_, rfl⟩
      obtain ⟨y2, hy2⟩ : ∃ y : Int, IntKind.u32.wrap (IntKind.u32.wrap x2 * 256) = y := ⟨_, rfl⟩
      obtain ⟨y3, hy3⟩ : ∃ y : Int, IntKind.u32.wrap x3 = y := ⟨_, rfl⟩
      obtain ⟨z1, hz1⟩ : ∃ y : Int, Go.bits .or .u32 y0 y1 = y := ⟨_, rfl⟩
      obtain ⟨z2, hz2⟩ : ∃ y : Int, Go.bits .or .u32 z1 y2 = y := ⟨_, rfl⟩
      obtain ⟨z3, hz3⟩ : ∃ y : Int, Go.bits .or .u32 z2 y3 = y := ⟨_, rfl⟩
      have HWD : Aside0 (word bs i = z3) := ⟨by unfold word; rw [hx0, hx1, hx2, hx3, hy0, hy1, hy2, hy3, hz1, hz2, hz3]⟩
      have HI16 := Aside0.mk hi
      clear hN0 hN1 hN2 hN3 hx0 hx1 hx2 hx3 hi hlt
      obtain ⟨hw0, hv0⟩ := idx_at e10 m0
      obtain ⟨hw1, hv1⟩ := idx_at e11 m1
      obtain ⟨hw2, hv2⟩ := idx_at e12 m2
      obtain ⟨hw3, hv3⟩ := idx_at e13 m3
      obtain ⟨hwn, hvn⟩ := idx_at en mn
      clear e10 e11 e12 e13 en m0 m1 m2 m3 mn
      go_wp2
      go_region_held3 (fun w' => w'.cell? ⟨h, o + N0, none⟩ = some (.int .u8 x0) ∧ w'.cell? ⟨h, o + N1, none⟩ = some (.int .u8 x1) ∧ w'.cell? ⟨h, o + N2, none⟩ = some (.int .u8 x2) ∧ w'.cell? ⟨h, o + N3, none⟩ = some (.int .u8 x3))
        (go_keep) (fail)
      have HB4 := Aside0.mk (show Below w.heap.size w (wr.setCell ⟨b3, i, none⟩ (.int .u32 z3)).drew from below_drew (HB.out.setCell G3.out _))
      have H24 := Aside0.mk (show (wr.setCell ⟨b3, i, none⟩ (.int .u32 z3)).drew.heap[b2]? = some (.cells (nums .u32 (List.replicate 64 0)).toArray 87 (0, 0)) from blk_drew (blk_far H2.out (Nat.ne_of_lt HLT3.out) _))
      have HX4 := Aside0.mk (show (wr.setCell ⟨b3, i, none⟩ (.int .u32 z3)).drew.heap[b3]? = some (.cells (nums .u32 (iter (schedA bs) (i + 1) (List.replicate 64 0))).toArray 87 (0, 0)) from by have hx := row_put HX.out i z3; rw [← HWD.out] at hx ⊢; exact blk_drew hx)
      clear hw0 hw1 hw2 hw3 hv0 hv1 hv2 hv3 c0 c1 c2 c3 a0 a1 a2 a3 f0 f1 f2 f3 d0 d1 d2 d3 hc hz hy0 hy1 hy2 hy3 hz1 hz2 hz3 HWD H2 HX HB hne hne' e0
      rename_i hS
      clear hS
      generalize (wr.setCell ⟨b3, i, none⟩ (.int .u32 z3)).drew = W4 at HB4 H24 HX4 ⊢
      go_wp2
      go_roundg (16 - (i + 1))
      case measure => have := HI.out; have := HI16.out; omega
      case rel => exact ⟨i + 1, ⟨by have := HI16.out; omega, by have := HI.out; omega⟩, by first | (with_reducible rfl) | (simp [hwn]; done) | go_num, HB4, H24, HX4⟩
    · have hltb : decide ((i : Int) < 16) = false := decide_eq_false hlt
      obtain rfl : i = 16 := by have := HI.out; omega
      clear hltb hlt HX2 HX3 HB3 HB2
      go_wp2
      go_loopg [5] 48 (fun gg s5 wr => ∃ (j : Nat), Aside0 (j ≤ 48 ∧ 48 - j ≤ gg) ∧ s5 = .int .i64 ((j + 16 : Nat) : Int) ∧ Aside0 (Below w.heap.size w wr) ∧ Aside0 (wr.heap[b2]? = some (.cells (nums .u32 (List.replicate 64 0)).toArray 87 (0, 0))) ∧ Aside0 (wr.heap[b3]? = some (.cells (nums .u32 (iter schedB j (iter (schedA bs) 16 (List.replicate 64 0)))).toArray 87 (0, 0))))
      case atStart => exact ⟨0, ⟨by omega, by omega⟩, rfl, HB, H2, HX⟩
      case round =>
        clear HB H2 HX HI
        obtain ⟨j, HI, rfl, HB, H2, HX⟩ := hrel
        by_cases hlt : ((j + 16 : Nat) : Int) < 64
        · have hltb : decide (((j + 16 : Nat) : Int) < 64) = true := decide_eq_true hlt
          have HJ := Aside0.mk (show j < 48 by omega)
          obtain ⟨xs, hxs⟩ : ∃ xs, iter schedB j (iter (schedA bs) 16 (List.replicate 64 0)) = xs := ⟨_, rfl⟩
          have HLEN := Aside0.mk (show xs.length = 64 by rw [← hxs]; exact schedB_len bs j)
          have HSTEP := Aside0.mk (show iter schedB (j + 1) (iter (schedA bs) 16 (List.replicate 64 0)) = schedB j xs by rw [← hxs]; rfl)
          rw [hxs] at HX
          obtain ⟨N, hN⟩ : ∃ N : Nat, N = j + 16 := ⟨_, rfl⟩
          obtain ⟨N1, hN1⟩ : ∃ N : Nat, N = j + 1 := ⟨_, rfl⟩
          obtain ⟨N2, hN2⟩ : ∃ N : Nat, N = j + 14 := ⟨_, rfl⟩
          obtain ⟨N9, hN9⟩ : ∃ N : Nat, N = j + 9 := ⟨_, rfl⟩
          rw [← hN]
          have hltN : decide ((N : Int) < 64) = true := by rw [hN]; exact hltb
          obtain ⟨X, hX⟩ : ∃ x : Int, xs.getD (j + 1) 0 = x := ⟨_, rfl⟩
          obtain ⟨Y, hY⟩ : ∃ x : Int, xs.getD (j + 14) 0 = x := ⟨_, rfl⟩
          obtain ⟨U, hU⟩ : ∃ x : Int, xs.getD j 0 = x := ⟨_, rfl⟩
          obtain ⟨V, hV⟩ : ∃ x : Int, xs.getD (j + 9) 0 = x := ⟨_, rfl⟩
          have HEQ := Aside0.mk (show schedB j xs = xs.set N (IntKind.u32.wrap (IntKind.u32.wrap (IntKind.u32.wrap (U + Go.bits .xor .u32 (Go.bits .xor .u32 (rotf X 7) (rotf X 18)) (X / 8)) + V) + Go.bits .xor .u32 (Go.bits .xor .u32 (rotf Y 17) (rotf Y 19)) (Y / 1024))) by unfold schedB; rw [hX, hY, hU, hV, hN])
          have cX : wr.cell? ⟨b3, N1, none⟩ = some (.int .u32 X) := by rw [← hX, hN1]; exact row_cell HX.out _ (by have := HLEN.out; omega)
          have cY : wr.cell? ⟨b3, N2, none⟩ = some (.int .u32 Y) := by rw [← hY, hN2]; exact row_cell HX.out _ (by have := HLEN.out; omega)
          have HJS := Aside0.mk (And.intro hN (And.intro hN1 (And.intro hN2 hN9)))
          have HVU := Aside0.mk (And.intro hU hV)
          have aN : (0 : Int) ≤ (N : Int) := by omega
          have fN : (N : Int) < 64 := by omega
          have dN : N < 64 := by omega
          have aN1 : (0 : Int) ≤ (N1 : Int) := by omega
          have fN1 : (N1 : Int) < 64 := by omega
          have dN1 : N1 < 64 := by omega
          have aN2 : (0 : Int) ≤ (N2 : Int) := by omega
          have fN2 : (N2 : Int) < 64 := by omega
          have dN2 : N2 < 64 := by omega
          have aN9 : (0 : Int) ≤ (N9 : Int) := by omega
          have fN9 : (N9 : Int) < 64 := by omega
          have dN9 : N9 < 64 := by omega
          have aj : (0 : Int) ≤ (j : Int) := by omega
          have fj : (j : Int) < 64 := by omega
          have dj : j < 64 := by omega
          have e15 : (N : Int) - 15 = (N1 : Int) := by omega
          have m15 : N1 ≤ 9223372036854775807 := by omega
          have e2 : (N : Int) - 2 = (N2 : Int) := by omega
          have m2 : N2 ≤ 9223372036854775807 := by omega
          have e16 : (N : Int) - 16 = (j : Int) := by omega
          have m16 : j ≤ 9223372036854775807 := by omega
          have e7 : (N : Int) - 7 = (N9 : Int) := by omega
          have m7 : N9 ≤ 9223372036854775807 := by omega
          have en : (N : Int) + 1 = ((j + 1 + 16 : Nat) : Int) := by omega
          have mn : j + 1 + 16 ≤ 9223372036854775807 := by omega
          clear hX hY hU hV hN hN1 hN2 hN9 hltb hlt hxs
          obtain ⟨hw15, hv15⟩ := idx_at e15 m15
          obtain ⟨hw2, hv2⟩ := idx_at e2 m2
          obtain ⟨hw16, hv16⟩ := idx_at e16 m16
          obtain ⟨hw7, hv7⟩ := idx_at e7 m7
          obtain ⟨hwn, hvn⟩ := idx_at en mn
          clear e15 m15 e2 m2 e16 m16 e7 m7 en mn
          go_wp2
          go_region_held3 (fun w' => w'.cell? ⟨b3, N1, none⟩ = some (.int .u32 X) ∧ w'.cell? ⟨b3, N2, none⟩ = some (.int .u32 Y))
            (go_keep) (fail)
          rename_i hS
          clear hS cX cY
          have HB4 := Aside0.mk (show Below w.heap.size w wr.drew from below_drew HB.out)
          have H24 := Aside0.mk (blk_drew H2.out)
          have HX4 := Aside0.mk (blk_drew HX.out)
          clear HB H2 HX
          generalize wr.drew = W4 at HB4 H24 HX4 ⊢
          go_wp2_with (go_at_call 41; (with_reducible refine (right_calls2 _ _ _ (by simp)).mono ?_); rintro e w5 ⟨rfl, hh, hb⟩; replace HB4 := Aside0.mk (below_step HB4.out hb); replace HX4 := Aside0.mk ((congrArg (·[b3]?) hh).trans HX4.out); replace H24 := Aside0.mk ((congrArg (·[b2]?) hh).trans H24.out); clear hh hb)
          generalize Go.bits .xor .u32 (Go.bits .xor .u32 (rotf X 7) (rotf X 18)) (X / 8) = S0 at HEQ ⊢
          generalize Go.bits .xor .u32 (Go.bits .xor .u32 (rotf Y 17) (rotf Y 19)) (Y / 1024) = S1 at HEQ ⊢
          obtain ⟨A1, hA1⟩ : ∃ y : Int, IntKind.u32.wrap (U + S0) = y := ⟨_, rfl⟩
          obtain ⟨A2, hA2⟩ : ∃ y : Int, IntKind.u32.wrap (A1 + V) = y := ⟨_, rfl⟩
          obtain ⟨A3, hA3⟩ : ∃ y : Int, IntKind.u32.wrap (A2 + S1) = y := ⟨_, rfl⟩
          replace HEQ := Aside0.mk (show schedB j xs = xs.set N A3 by rw [HEQ.out, hA1, hA2, hA3])
          have cU : w5.cell? ⟨b3, j, none⟩ = some (.int .u32 U) := by rw [← HVU.out.1]; exact row_cell HX4.out _ (by have := HLEN.out; have := HJ.out; exact Nat.lt_of_lt_of_eq (Nat.lt_trans this (by decide)) HLEN.out.symm)
          have cV : w5.cell? ⟨b3, N9, none⟩ = some (.int .u32 V) := by rw [← HVU.out.2, HJS.out.2.2.2]; exact row_cell HX4.out _ (Nat.lt_of_lt_of_eq (Nat.lt_of_lt_of_le (Nat.add_lt_add_right HJ.out 9) (by decide)) HLEN.out.symm)
          have hc := row_cell HX4.out N (Nat.lt_of_lt_of_eq dN HLEN.out.symm)
          have hz := blk_frozen HX4.out N
          have n1 : (⟨b3, N, none⟩ : Addr) ≠ ⟨b3, j, none⟩ := by have := HJS.out.1; intro e; injection e with _ e; exact absurd (e.symm.trans rfl) (by rw [this]; exact Nat.ne_of_lt (Nat.lt_add_of_pos_right (by decide)))
          have n2 : (⟨b3, N, none⟩ : Addr) ≠ ⟨b3, N9, none⟩ := by have h1 := HJS.out.1; have h2 := HJS.out.2.2.2; intro e; injection e with _ e; rw [h1, h2] at e; exact absurd (Nat.add_left_cancel e) (by decide)
          go_wp2
          go_region_held3 (fun w' => w'.cell? ⟨b3, j, none⟩ = some (.int .u32 U) ∧ w'.cell? ⟨b3, N9, none⟩ = some (.int .u32 V))
            (first | (go_keep; done) | exact ⟨put_other n1 cU, put_other n2 cV⟩ | exact ⟨put_other' n1 cU, put_other' n2 cV⟩ | exact put_other n1 cU | exact put_other n2 cV | exact put_other' n1 cU | exact put_other' n2 cV) (fail)
          rename_i hS
          clear hS cU cV hc hz n1 n2 hA1 hA2 hA3
          have HB5 := Aside0.mk (show Below w.heap.size w (w5.setCell ⟨b3, N, none⟩ (.int .u32 A3)).drew from below_drew (HB4.out.setCell G3.out _))
          have H25 := Aside0.mk (show (w5.setCell ⟨b3, N, none⟩ (.int .u32 A3)).drew.heap[b2]? = some (.cells (nums .u32 (List.replicate 64 0)).toArray 87 (0, 0)) from blk_drew (blk_far H24.out (Nat.ne_of_lt HLT3.out) _))
          have HX5 := Aside0.mk (show (w5.setCell ⟨b3, N, none⟩ (.int .u32 A3)).drew.heap[b3]? = some (.cells (nums .u32 (iter schedB (j + 1) (iter (schedA bs) 16 (List.replicate 64 0)))).toArray 87 (0, 0)) from by rw [HSTEP.out, HEQ.out]; exact blk_drew (row_put HX4.out N A3))
          clear HB4 H24 HX4 HSTEP HEQ
          generalize (w5.setCell ⟨b3, N, none⟩ (.int .u32 A3)).drew = W6 at HB5 H25 HX5 ⊢
          go_wp2
          clear hw15 hv15 hw2 hv2 hw16 hv16 hw7 hv7 hvn
          clear aN fN dN aN1 fN1 dN1 aN2 fN2 dN2 aN9 fN9 dN9 aj fj dj
          go_roundg (48 - (j + 1))
          case measure => clear hwn; have := HI.out; have := HJ.out; omega
          case rel => exact ⟨j + 1, ⟨by clear hwn; have := HJ.out; omega, by clear hwn; have := HI.out; omega⟩, by first | (with_reducible rfl) | (simp [hwn]; done) | go_num, HB5, H25, HX5⟩
        · have hltb : decide (((j + 16 : Nat) : Int) < 64) = false := decide_eq_false hlt
          obtain rfl : j = 48 := by have := HI.out; omega
          clear hltb hlt
          have HFIN := Aside0.mk (show wr.heap[b3]? = some (.cells (nums .u32 (schedf bs)).toArray 87 (0, 0)) from HX.out)
          have HLF := Aside0.mk (show (nums .u32 (schedf bs)).toArray.size = 64 by rw [List.size_toArray, nums_length]; exact schedB_len bs 48)
          clear HX
          obtain ⟨cs, hcs⟩ : ∃ cs, (nums .u32 (schedf bs)).toArray = cs := ⟨_, rfl⟩
          have H1 := Aside0.mk (show cs.all (·.oneCell') = true by rw [← hcs]; simp [nums, Value.oneCell'])
          rw [hcs] at HFIN HLF
          have HI2 := Aside0.mk (show (Tryd.prog.info? 87).map (·.size) = some cs.size by rw [HLF.out]; kernel_rfl)
          go_wp2_with (first
            | (refine wpList_load_row rfl 87 (.tmp 3) rfl b3 rfl 87 cs (0, 0) _ HFIN.out Tryd.underlying87 rfl HI2.out ?_)
            | (refine put_row rfl 87 (.tmp 2) (.tmp 92) rfl b2 cs rfl rfl 87 _ H2.out HI2.out (by rw [HLF.out]; simp [nums]) H1.out ?_))
          refine bodyPost_ret (results_cell_row rfl _ _ b2 87 cs (0, 0) _ rfl (setRow_heap _ _ _ _ _ _ H2.out) Tryd.underlying87 rfl HI2.out) rfl ?_
          exact ⟨by rw [hcs], below_row HB.out G2.out _⟩
end Go.Proofs.YtoigoiefnapokaaDoor.T
