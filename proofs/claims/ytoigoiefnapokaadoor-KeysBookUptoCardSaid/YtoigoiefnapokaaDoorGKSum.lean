/- The walk of (*digest.Hasher).Sum. -/
import Derived.Test.YtoigoiefnapokaaDoorGKApp
set_option linter.unusedVariables false
set_option linter.unusedSimpArgs false
namespace Go.Proofs.YtoigoiefnapokaaDoor.T
open Go.RowKit Go.Proofs.YtoigoiefnapokaaDoorW.PrintWords Go.Proofs.YtoigoiefnapokaaDoorW.PrintLast
/-- How many zeros come behind the 128. -/
def zeros (n : Nat) : Nat := (119 - n % 64) % 64
def padf (n : Nat) : List Int := 128 :: List.replicate (zeros n) 0
def tailf (n : Nat) : List Int := padf n ++ eightf (IntKind.u64.wrap (8 * IntKind.u64.wrap (n : Int)))
/-- One word out, four bytes. -/
def outStep (s : List Int) (i : Nat) (d : List Int) : List Int :=
  (((d.set (4 * i) (s[i]?.getD 0 / 16777216 % 256)).set (4 * i + 1) (s[i]?.getD 0 / 65536 % 256)).set (4 * i + 2) (s[i]?.getD 0 / 256 % 256)).set (4 * i + 3) (s[i]?.getD 0 % 256)
/-- The digest of what came into a hasher. -/
def digf (x : HS) : List Int := iter (outStep (writef x (tailf x.n)).s) 8 (List.replicate 32 0)
theorem out_len (s : List Int) (j : Nat) : (iter (outStep s) j (List.replicate 32 0)).length = 32 :=
  iter_inv (p := fun x : List Int => x.length = 32) (fun i x h => by simp [outStep, h]) j _ (by simp)
theorem dig_len (x : HS) : (digf x).length = 32 := out_len _ 8
theorem eight8 (n : Int) : (eightf n).length = 8 := eight_len n 8
theorem tail_len (n : Nat) : (tailf n).length = zeros n + 9 := by simp [tailf, padf, eight8]
theorem zeros_le (n : Nat) : zeros n ≤ 63 := by unfold zeros; omega
theorem step_ok' {x : HS} (hx : x.ok) {b : List Int} (h : b ≠ []) : (x.step b).ok := step_ok hx h
theorem writeF_ok : ∀ (f : Nat) {x : HS} (b : List Int), x.ok → (writeF f x b).ok
  | 0, _, _, h => h
  | f + 1, x, b, h => by
    unfold writeF
    split
    · exact h
    · rename_i hb
      exact writeF_ok f _ (step_ok h hb)
theorem writef_ok {x : HS} (h : x.ok) (b : List Int) : (writef x b).ok := writeF_ok _ _ h
theorem hc_size {x : HS} (hx : x.ok) : (hcells x.s x.part x.n).toArray.size = 73 := by rw [List.size_toArray, hc_len hx.1 hx.2]
theorem hc_one (s part : List Int) (n : Int) : (hcells s part n).toArray.all (·.oneCell') = true := by
  rw [Array.all_eq_true_iff_forall_mem]
  intro v hv
  simp only [hcells, List.mem_toArray, List.mem_append, nums, List.mem_map, List.mem_singleton] at hv
  rcases hv with ⟨y, _, rfl⟩ | ⟨y, _, rfl⟩ | rfl <;> rfl
theorem index_state (s : List Int) (hs : s.length = 8) (i : Nat) (hi : i < 8) (W : World) : (Instr.index 76 (.agg (nums .u32 s).toArray) (.int .i64 (i : Int))).run Tryd.prog W = .ok (.int .u32 (s.getD i 0)) W := by
  have h0 : ((i : Nat) : Int) < 8 := by omega
  have hg : (nums IntKind.u32 s)[i]? = some (.int .u32 (s.getD i 0)) := nums_get i (by omega)
  have hg' : (nums IntKind.u32 s).toArray[i]? = some (.int .u32 (s.getD i 0)) := by simpa using hg
  simp only [Instr.index, run_underlying Tryd.underlying76, asIntOf, Sem.run_bind, Sem.run_pure, Result.andThen_ok]
  rw [if_pos ⟨by omega, by omega⟩]
  simp [Go.part, go_sem, hg, hg']
set_option maxHeartbeats 8000000 in
set_option maxRecDepth 100000 in
theorem hsum_calls (w : World) (bh : Nat) (x : HS) (hx : x.ok) (hH : w.heap[bh]? = some (.cells (hcells x.s x.part x.n).toArray 78 (0, 0))) (hL : LaidR w) (hn : x.n ≤ 2305843009213693952) :
    Calls Tryd.prog 24 #[.pointer (some ⟨bh, 0, none⟩)] w fun e w' => e = .returned (.agg (nums .u8 (digf x)).toArray) ∧ Below w.heap.size w w' := by
  have hu78 := Tryd.underlying78
  have HX := Aside0.mk hx
  have HH := Aside0.mk hH
  have HL := Aside0.mk hL
  have HN := Aside0.mk hn
  have HI78 := Aside0.mk (show (Tryd.prog.info? 78).map (·.size) = some (hcells x.s x.part x.n).toArray.size by rw [hc_size hx]; kernel_rfl)
  obtain ⟨cs, hcs⟩ : ∃ cs, (hcells x.s x.part x.n).toArray = cs := ⟨_, rfl⟩
  have HCS := Aside0.mk hcs
  have HC1 := Aside0.mk (show cs.all (·.oneCell') = true by rw [← hcs]; exact hc_one _ _ _)
  have HC73 := Aside0.mk (show cs.size = 73 by rw [← hcs]; exact hc_size hx)
  rw [hcs] at HH HI78
  clear hx hH hL hn hcs hu78
  go_enter Tryd.func24, Tryd.ntmps24
  go_wp2_with (first
    | ((with_reducible refine gate_dst (N := 2) rfl ?_); refine box_event ?hg (N := 2) ?hd (cs := (nums .u8 (List.replicate 32 0)).toArray) (t := 27) ?hr ?_; (case hd => rfl); (case hg => rfl); (case hr => first | (go_simp; done) | (go_simp; rfl)); intro b2 hb2 w2 hbox hbl; have B2 := Aside0.mk hbox; have HB2 := Aside0.mk hbl; have HH2 := Aside0.mk (blk_below HH.out hbl); have G2 := Aside0.mk (show w.heap.size ≤ b2 by omega); clear hb2 hbox hbl)
    | (refine wpList_load_row rfl 78 (.tmp 9) rfl bh rfl 78 cs (0, 0) _ HH2.out Tryd.underlying78 rfl HI78.out ?_)
    | ((with_reducible refine gate_dst (N := 3) rfl ?_); refine box_event ?hg (N := 3) ?hd (cs := (hcells (List.replicate 8 0) (List.replicate 64 0) 0).toArray) (t := 78) ?hr ?_; (case hd => rfl); (case hg => rfl); (case hr => first | (go_simp; done) | (go_simp; rfl)); intro b3 hb3 w3 hbox hbl; have B3 := Aside0.mk hbox; have HB3 := Aside0.mk (below_step HB2.out hbl); have HH3 := Aside0.mk (blk_below HH2.out hbl); have N3 := Aside0.mk (show b2 < b3 by have := blk_lt B2.out; omega); replace B2 := Aside0.mk (blk_below B2.out hbl); have G3 := Aside0.mk (show w.heap.size ≤ b3 by have := HB2.out.size; omega); clear hb3 hbox hbl)
    | (refine put_row rfl 78 (.tmp 3) (.tmp 10) rfl b3 cs rfl rfl 78 _ B3.out HI78.out (by rw [HC73.out]; rfl) HC1.out ?_))
  have HTL := Aside0.mk (show 0 < (tailf x.n).length ∧ (tailf x.n).length ≤ 9223372036854775807 ∧ (tailf x.n).length ≤ 72 by rw [tail_len]; have := zeros_le x.n; omega)
  have HWS := Aside0.mk (writef_ok HX.out (tailf x.n)).1
  have NB := Aside0.mk (show bh ≠ b3 by have := blk_lt HH.out; have := G3.out; omega)
  have HS1 := Aside0.mk (below_row HB3.out G3.out cs)
  have HBT := Aside0.mk (show Bt ((w3.setRow b3 cs).alloc (.cells #[.int .u8 128] 5)) w.heap.size (fun k => b3 < k) (.slice (some ⟨(w3.setRow b3 cs).heap.size, 0, none⟩) 1 1) [128] from Kd.R_of_own (h1 := fun _ => rfl) (World.ownsRow_lit (base := w.heap.size) (e := 5) (size := 1) (w3.setRow b3 cs) #[.int .u8 128] 1 HS1.out.size (by simp [maxLen]) rfl) (fun k hk => by have := blk_lt B3.out; simp [Value.ownBlock] at hk; omega))
  have HBL := Aside0.mk (show Below w.heap.size w ((w3.setRow b3 cs).alloc (.cells #[.int .u8 128] 5)) from below_alloc HS1.out _)
  have HB3' := Aside0.mk (show ((w3.setRow b3 cs).alloc (.cells #[.int .u8 128] 5)).heap[b3]? = some (.cells cs 78 (0, 0)) from blk_below (setRow_heap w3 b3 _ cs _ _ B3.out) (below_alloc (Below.refl _ _) _))
  have HB2' := Aside0.mk (show ((w3.setRow b3 cs).alloc (.cells #[.int .u8 128] 5)).heap[b2]? = some (.cells (nums .u8 (List.replicate 32 0)).toArray 27 (0, 0)) from blk_below ((setRow_other w3 b3 b2 cs (by have := N3.out; omega)).trans B2.out) (below_alloc (Below.refl _ _) _))
  have HSZ := Aside0.mk (show (w3.setRow b3 cs).heap.size = w3.heap.size by simp)
  rw [HSZ.out] at HBT
  generalize (w3.setRow b3 cs).alloc (.cells #[.int .u8 128] 5) = W1 at HBT HBL HB3' HB2'
  clear HS1 HSZ
  go_loopg [4] (zeros x.n) (fun gg s4 wr => ∃ (j : Nat), Aside0 (j ≤ zeros x.n ∧ zeros x.n - j ≤ gg) ∧ Aside0 (Bt wr w.heap.size (fun k => b3 < k) s4 (128 :: List.replicate j 0)) ∧ Aside0 (Below w.heap.size w wr) ∧ Aside0 (wr.heap[b3]? = some (.cells cs 78 (0, 0))) ∧ Aside0 (wr.heap[b2]? = some (.cells (nums .u8 (List.replicate 32 0)).toArray 27 (0, 0))))
  case atStart => exact ⟨0, ⟨Nat.zero_le _, Nat.le_refl _⟩, HBT, HBL, HB3', HB2'⟩
  case round =>
    clear HBT HBL HB3' HB2' B2 B3 HB3 HH3 HB2 HH2
    obtain ⟨j, HJ, HO, HB, H3, H2⟩ := hrel
    obtain ⟨A, c, rfl⟩ := Kd.R_slice HO.out
    obtain ⟨L, hL⟩ : ∃ L, (128 :: List.replicate j (0 : Int)).length = L := ⟨_, rfl⟩
    have HLJ := Aside0.mk (show L = j + 1 by rw [← hL]; simp)
    have c72 : wr.cell? ⟨bh, 72, none⟩ = some (.int .i64 (x.n : Int)) := pw_cell_below HB.out (arr_cell (by rw [HH.out, ← HCS.out]) 72 (hc_n HX.out.1 HX.out.2))
    have HZM := Aside0.mk (zeros_le x.n)
    obtain ⟨M, hM⟩ : ∃ M, x.n + L = M := ⟨_, rfl⟩
    have e1 : (x.n : Int) + (L : Int) = (M : Int) := by omega
    have e2 : M ≤ 9223372036854775807 := by have := HN.out; have := HJ.out; have := HZM.out; have := HLJ.out; omega
    have htm : Int.tmod (M : Int) 64 = ((M % 64 : Nat) : Int) := by rw [Int.tmod_eq_emod_of_nonneg (by omega)]; omega
    obtain ⟨r, hr⟩ : ∃ r, M % 64 = r := ⟨_, rfl⟩
    have HRJ := Aside0.mk (show r = 56 ↔ j = zeros x.n by unfold zeros at HJ ⊢; have := HLJ.out; have := HJ.out; omega)
    rw [hr] at htm
    rw [hL] at HO ⊢
    clear hL
    obtain ⟨hwm, hvm⟩ := idx_at e1 e2
    clear e1 e2 hM hr
    by_cases hj : j = zeros x.n
    · have hne : ((r : Int) == 56) = true := by rw [beq_iff_eq]; have := HRJ.out.2 hj; omega
      have HJZ := Aside0.mk hj
      clear hj
      have HPD := Aside0.mk (show (128 :: List.replicate j (0 : Int)) ++ eightf (IntKind.u64.wrap (8 * IntKind.u64.wrap (x.n : Int))) = tailf x.n by rw [HJZ.out]; rfl)
      go_wp2_with (first
        | (go_at_call 33; (with_reducible refine (eight_calls _ _).mono ?_); rintro e w5 ⟨b4, rfl, h4, g4, l4⟩; have HE4 := Aside0.mk h4; have G4 := Aside0.mk g4; have HB5 := Aside0.mk (below_step HB.out l4); have HO5 := Aside0.mk (Kd.R_below HO.out l4); have H35 := Aside0.mk (blk_below H3.out l4); have H25 := Aside0.mk (blk_below H2.out l4); clear h4 g4 l4)
        | ((with_reducible refine gate_builtin (b := .append) (xs := #[.tmp 24, .tmp 31]) rfl ?_); at_builtin; refine wpl_bytes rfl (.tmp 24) (.tmp 31) 22 rfl Tryd.underlying22 (by kernel_rfl) w.heap.size (fun k => b3 < k) (.slice A L c) (128 :: List.replicate j 0) (eightf (IntKind.u64.wrap (8 * IntKind.u64.wrap (x.n : Int)))) b4 8 90 rfl (by rw [show (eightf (IntKind.u64.wrap (8 * IntKind.u64.wrap (x.n : Int)))).length = 8 from eight_len _ 8]; rfl) HE4.out HO5.out (fun k hk => by have := blk_lt H35.out; omega) HB5.out.size (by rw [show (eightf (IntKind.u64.wrap (8 * IntKind.u64.wrap (x.n : Int)))).length = 8 from eight_len _ 8]; decide) (by rw [show (eightf (IntKind.u64.wrap (8 * IntKind.u64.wrap (x.n : Int)))).length = 8 from eight_len _ 8]; have := HJ.out; have := HZM.out; simp; omega) ?_; intro v1 w1 h1 g1; rw [HPD.out] at h1; obtain ⟨gv, cv, hv, hcv, hgb, hgl, hgo, hrd⟩ := Bt.reads h1 HTL.out.1 HTL.out.2.1; subst hv; have HCV := Aside0.mk hcv; have HRD := Aside0.mk hrd; have HGV := Aside0.mk hgo; have HB6 := Aside0.mk (pw_below_grown HB5.out _ HB5.out.size g1 (own_base (Kd.own_of_R HO5.out))); have H36 := Aside0.mk (blk_grown H35.out g1 (Kd.R_away HO5.out (fun k hk => by omega))); have H26 := Aside0.mk (blk_grown H25.out g1 (Kd.R_away HO5.out (fun k hk => by have := N3.out; omega))); clear h1 g1 hcv hrd hgo hgb hgl)
        | (go_at_call 22; go_loud (with_reducible refine (write_calls w _ b3 x (some ⟨gv, 0, none⟩) cv (tailf x.n) HX.out (by rw [H36.out, HCS.out]) HB6.out G3.out HL.out HRD.out HCV.out (fun ad had _ => by cases had; have := HGV.out; dsimp only; omega) (by have := HTL.out.2.2; have := HN.out; omega)).mono ?_); rintro e w7 ⟨rfl, h7, k7, l7⟩; have H37 := Aside0.mk h7; have H27 := Aside0.mk ((k7.2 b2 (blk_lt H26.out) (by have := N3.out; omega) (by simp)).trans H26.out); have HB7 := Aside0.mk l7; clear h7 k7 l7)
        | ((with_reducible refine gate_dst (N := 5) rfl ?_); refine box_event ?hg (N := 5) ?hd (cs := (nums .u8 (List.replicate 32 0)).toArray) (t := 27) ?hr ?_; (case hd => rfl); (case hg => rfl); (case hr => first | (go_simp; done) | (go_simp; rfl)); intro b5 hb5 w8 hbox hbl; have B5 := Aside0.mk hbox; have HB8 := Aside0.mk (below_step HB7.out hbl); have H38 := Aside0.mk (blk_below H37.out hbl); have H28 := Aside0.mk (blk_below H27.out hbl); have N5 := Aside0.mk (show b2 ≠ b5 by have := blk_lt H27.out; omega); have G5 := Aside0.mk (show w.heap.size ≤ b5 by have := HB7.out.size; omega); clear hb5 hbox hbl)
        | ((with_reducible refine gate_dst (N := 35) rfl ?_); go_loud (refine wpList_load_mid rfl 76 (.tmp 34) rfl b3 0 rfl (nums .u32 (writef x (tailf x.n)).s) _ (fun i v hi => ?hcell) Tryd.underlying76 rfl ?hinf ?_; (case hcell => rw [Nat.zero_add]; exact arr_cell H38.out i (by rw [hcells, List.getElem?_append_left (List.getElem?_eq_some_iff.1 hi).1]; exact hi)); (case hinf => rw [nums_length, HWS.out]; kernel_rfl))))
      obtain ⟨S, hS⟩ : ∃ S, (writef x (tailf x.n)).s = S := ⟨_, rfl⟩
      have HSS := Aside0.mk hS
      rw [hS] at HWS ⊢
      clear hne hwm hvm htm c72 hS HE4 G4 HB5 HO5 H35 H25 HRD HCV HGV HB6 H36 H26 H37 H27 HB7 H38 HO HB H3 H2 HJ HRJ HZM HLJ HJZ HPD HX HL HN HI78 HH HCS HC1 HC73
      go_loopg [36] 8 (fun gg s36 wr => ∃ (i : Nat), Aside0 (i ≤ 8 ∧ 8 - i ≤ gg) ∧ s36 = .int .i64 (i : Int) ∧ Aside0 (Below w.heap.size w wr) ∧ Aside0 (wr.heap[b5]? = some (.cells (nums .u8 (iter (outStep S) i (List.replicate 32 0))).toArray 27 (0, 0))) ∧ Aside0 (wr.heap[b2]? = some (.cells (nums .u8 (List.replicate 32 0)).toArray 27 (0, 0))))
      case atStart => exact ⟨0, ⟨by omega, by omega⟩, rfl, HB8, B5, H28⟩
      case round =>
        clear HB8 B5 H28
        obtain ⟨i, HI, rfl, HB, HX, H2⟩ := hrel
        by_cases hlt : (i : Int) < 8
        · have hltb : decide ((i : Int) < 8) = true := decide_eq_true hlt
          have HI8 := Aside0.mk (show i < 8 by omega)
          have p0 : (0 : Int) ≤ (i : Int) := by omega
          obtain ⟨N0, hN0⟩ : ∃ N, 4 * i = N := ⟨_, rfl⟩
          obtain ⟨N1, hN1⟩ : ∃ N, N0 + 1 = N := ⟨_, rfl⟩
          obtain ⟨N2, hN2⟩ : ∃ N, N0 + 2 = N := ⟨_, rfl⟩
          obtain ⟨N3, hN3⟩ : ∃ N, N0 + 3 = N := ⟨_, rfl⟩
          have e0 : 4 * (i : Int) = (N0 : Int) := by omega
          have e1 : (N0 : Int) + 1 = (N1 : Int) := by omega
          have e2 : (N0 : Int) + 2 = (N2 : Int) := by omega
          have e3 : (N0 : Int) + 3 = (N3 : Int) := by omega
          have en : (i : Int) + 1 = ((i + 1 : Nat) : Int) := by omega
          have q0 : (0 : Int) ≤ (N0 : Int) := by omega
          have q1 : (0 : Int) ≤ (N1 : Int) := by omega
          have q2 : (0 : Int) ≤ (N2 : Int) := by omega
          have q3 : (0 : Int) ≤ (N3 : Int) := by omega
          have r0 : (N0 : Int) < 32 := by omega
          have r1 : (N1 : Int) < 32 := by omega
          have r2 : (N2 : Int) < 32 := by omega
          have r3 : (N3 : Int) < 32 := by omega
          have HNN := Aside0.mk (show N0 < 32 ∧ N1 < 32 ∧ N2 < 32 ∧ N3 < 32 ∧ N0 ≠ N1 ∧ N0 ≠ N2 ∧ N0 ≠ N3 ∧ N1 ≠ N2 ∧ N1 ≠ N3 ∧ N2 ≠ N3 by omega)
          have HNE := Aside0.mk (And.intro hN0 (And.intro hN1 (And.intro hN2 hN3)))
          have m0 : N0 ≤ 9223372036854775807 := by omega
          have m1 : N1 ≤ 9223372036854775807 := by omega
          have m2 : N2 ≤ 9223372036854775807 := by omega
          have m3 : N3 ≤ 9223372036854775807 := by omega
          have mn : i + 1 ≤ 9223372036854775807 := by omega
          obtain ⟨w0_, v0_⟩ := idx_at e0 m0
          obtain ⟨w1_, v1_⟩ := idx_at e1 m1
          obtain ⟨w2_, v2_⟩ := idx_at e2 m2
          obtain ⟨w3_, v3_⟩ := idx_at e3 m3
          obtain ⟨wn_, vn_⟩ := idx_at en mn
          have hix := index_state S HWS.out i HI8.out
          have hlen : (iter (outStep S) i (List.replicate 32 0)).length = 32 := out_len S i
          have c0 := fun (h : N0 < _) => row_cell HX.out N0 h
          have k0 : wr.cell? ⟨b5, N0, none⟩ = _ := row_cell HX.out N0 (by rw [hlen]; exact HNN.out.1)
          have k1 : wr.cell? ⟨b5, N1, none⟩ = _ := row_cell HX.out N1 (by rw [hlen]; exact HNN.out.2.1)
          have k2 : wr.cell? ⟨b5, N2, none⟩ = _ := row_cell HX.out N2 (by rw [hlen]; exact HNN.out.2.2.1)
          have k3 : wr.cell? ⟨b5, N3, none⟩ = _ := row_cell HX.out N3 (by rw [hlen]; exact HNN.out.2.2.2.1)
          have z0 := blk_frozen HX.out N0
          have z1 := blk_frozen HX.out N1
          have z2 := blk_frozen HX.out N2
          have z3 := blk_frozen HX.out N3
          have a1 : ∀ v, (wr.setCell ⟨b5, N0, none⟩ v).cell? ⟨b5, N1, none⟩ = _ := fun v => put_other (by first | (simp; done) | (simp; exact HNN.out.2.2.2.2.1)) k1
          have a2 : ∀ v u, ((wr.setCell ⟨b5, N0, none⟩ v).setCell ⟨b5, N1, none⟩ u).cell? ⟨b5, N2, none⟩ = _ := fun v u => put_other (by first | (simp; done) | (simp; exact HNN.out.2.2.2.2.2.2.2.1)) (put_other (by first | (simp; done) | (simp; exact HNN.out.2.2.2.2.2.1)) k2)
          have a3 : ∀ v u t, (((wr.setCell ⟨b5, N0, none⟩ v).setCell ⟨b5, N1, none⟩ u).setCell ⟨b5, N2, none⟩ t).cell? ⟨b5, N3, none⟩ = _ := fun v u t => put_other (by first | (simp; done) | (simp; exact HNN.out.2.2.2.2.2.2.2.2.2)) (put_other (by first | (simp; done) | (simp; exact HNN.out.2.2.2.2.2.2.2.2.1)) (put_other (by first | (simp; done) | (simp; exact HNN.out.2.2.2.2.2.2.1)) k3))
          clear hN0 hN1 hN2 hN3 e0 e1 e2 e3 en m0 m1 m2 m3 mn hlen c0
          go_wp2
          obtain ⟨xs, hxs⟩ : ∃ xs, iter (outStep S) i (List.replicate 32 0) = xs := ⟨_, rfl⟩
          have HST := Aside0.mk (show iter (outStep S) (i + 1) (List.replicate 32 0) = (((xs.set N0 (S[i]?.getD 0 / 16777216 % 256)).set N1 (S[i]?.getD 0 / 65536 % 256)).set N2 (S[i]?.getD 0 / 256 % 256)).set N3 (S[i]?.getD 0 % 256) by rw [← hxs, ← HNE.out.2.1, ← HNE.out.2.2.1, ← HNE.out.2.2.2, ← HNE.out.1]; rfl)
          rw [hxs] at HX
          clear hxs k0 k1 k2 k3 z0 z1 z2 z3 a1 a2 a3 hix w0_ w1_ w2_ w3_ v0_ v1_ v2_ v3_ vn_
          go_roundg (8 - (i + 1))
          case measure => clear wn_; have := HI.out; have := HI8.out; omega
          case rel =>
            refine ⟨i + 1, ⟨by clear wn_; have := HI8.out; omega, by clear wn_; have := HI.out; omega⟩, by first | (with_reducible rfl) | (simp [wn_]; done) | go_num, ⟨(((HB.out.setCell G5.out _).setCell G5.out _).setCell G5.out _).setCell G5.out _⟩, ⟨?_⟩, ⟨?_⟩⟩
            · rw [HST.out]
              exact row_put (row_put (row_put (row_put HX.out N0 _) N1 _) N2 _) N3 _
            · have e : ∀ (W : World) (j : Nat) (v : Value), (W.setCell ⟨b5, j, none⟩ v).heap[b2]? = W.heap[b2]? := fun W j v => Below.heap_setCell W ⟨b5, j, none⟩ v b2 N5.out
              rw [e, e, e, e]
              exact H2.out
        · have hltb : decide ((i : Int) < 8) = false := decide_eq_false hlt
          obtain rfl : i = 8 := by have := HI.out; omega
          clear hlt
          obtain ⟨ds, hds⟩ : ∃ ds, (nums IntKind.u8 (iter (outStep S) 8 (List.replicate 32 0))).toArray = ds := ⟨_, rfl⟩
          have HDS := Aside0.mk hds
          have HI27 := Aside0.mk (show (Tryd.prog.info? 27).map (·.size) = some ds.size by rw [← hds, List.size_toArray, nums_length, out_len]; kernel_rfl)
          have HD32 := Aside0.mk (show ds.size = 32 by rw [← hds, List.size_toArray, nums_length, out_len])
          have HD1 := Aside0.mk (show ds.all (·.oneCell') = true by rw [← hds, Array.all_eq_true_iff_forall_mem]; intro v hv; simp only [nums, List.mem_toArray, List.mem_map] at hv; obtain ⟨y, _, rfl⟩ := hv; rfl)
          rw [hds] at HX
          clear hds
          go_wp2_with (first
            | (refine wpList_load_row rfl 27 (.tmp 5) rfl b5 rfl 27 ds (0, 0) _ HX.out Tryd.underlying27 rfl HI27.out ?_)
            | (refine put_row rfl 27 (.tmp 2) (.tmp 67) rfl b2 ds rfl rfl 27 _ H2.out HI27.out (by rw [HD32.out]; rfl) HD1.out ?_))
          refine bodyPost_ret (results_cell_row rfl _ _ b2 27 ds (0, 0) _ rfl (setRow_heap _ _ _ _ _ _ H2.out) Tryd.underlying27 rfl HI27.out) rfl ?_
          exact ⟨by rw [← HDS.out, digf, HSS.out], below_row HB.out G2.out _⟩
    · have hne : ((r : Int) == 56) = false := by rw [beq_eq_false_iff_ne]; intro h; exact hj (HRJ.out.1 (by omega))
      have HJZ := Aside0.mk (show j + 1 ≤ zeros x.n by have := HJ.out; omega)
      clear hj
      go_wp2_with ((with_reducible refine gate_builtin (b := .append) (xs := #[.tmp 21, .tmp 22]) rfl ?_); at_builtin; refine wpl_bytes rfl (.tmp 21) (.tmp 22) 22 rfl Tryd.underlying22 (by kernel_rfl) w.heap.size (fun k => b3 < k) (.slice A L c) (128 :: List.replicate j 0) [0] wr.heap.size 1 5 rfl rfl (heap_alloc_new _ _) (Kd.R_alloc HO.out _) (fun k hk => by have := blk_lt H3.out; simp at hk; omega) (by have := HB.out.size; simp; omega) (by decide) (by have := HJ.out; have := HZM.out; have := HLJ.out; simp; omega) ?_; intro v1 w1 h1 g1; have H1 := Aside0.mk h1; have G1 := Aside0.mk g1; clear h1 g1)
      have HAG := Aside0.mk (World.grownBy.trans (World.grownBy_alloc wr (.cells #[.int .u8 0] 5) _) G1.out)
      clear hwm hvm htm hne c72
      go_roundg (zeros x.n - (j + 1))
      case measure => have := HJ.out; have := HJZ.out; omega
      case rel =>
        refine ⟨j + 1, ⟨HJZ.out, Nat.le_refl _⟩, ⟨?_⟩, ⟨pw_below_grown HB.out _ HB.out.size HAG.out (own_base (Kd.own_of_R HO.out))⟩, ⟨blk_grown H3.out HAG.out (Kd.R_away HO.out (fun k hk => by omega))⟩, ⟨blk_grown H2.out HAG.out (Kd.R_away HO.out (fun k hk => by have := N3.out; omega))⟩⟩
        rw [List.replicate_succ']
        exact H1.out
end Go.Proofs.YtoigoiefnapokaaDoor.T
