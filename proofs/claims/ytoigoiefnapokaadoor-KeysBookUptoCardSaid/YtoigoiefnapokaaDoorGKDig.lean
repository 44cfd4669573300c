/- The walk of digest.Sum. -/
import Derived.Test.YtoigoiefnapokaaDoorGKSum
set_option linter.unusedVariables false
set_option linter.unusedSimpArgs false
namespace Go.Proofs.YtoigoiefnapokaaDoor.T
open Go.RowKit Go.Proofs.YtoigoiefnapokaaDoorW.PrintWords Go.Proofs.YtoigoiefnapokaaDoorW.PrintLast
/-- A hasher to which nothing came. -/
def H0 : HS := ⟨firstL, List.replicate 64 0, 0⟩
theorem H0_ok : H0.ok := ⟨rfl, by simp [H0]⟩
theorem writeF_n : ∀ (f : Nat) (x : HS) (b : List Int), b.length ≤ f → (writeF f x b).n = x.n + b.length
  | 0, x, b, h => by
    have : b.length = 0 := by omega
    rw [this]
    rfl
  | f + 1, x, b, h => by
    unfold writeF
    split
    · rename_i hb
      subst hb
      rfl
    · rename_i hb
      have hp := k_pos x hb
      rw [writeF_n f _ _ (by rw [List.length_drop]; omega), List.length_drop]
      show x.n + x.k b + (b.length - x.k b) = x.n + b.length
      omega
theorem writef_n (x : HS) (b : List Int) : (writef x b).n = x.n + b.length := writeF_n _ _ _ (Nat.le_refl _)
def dsumf (b : List Int) : List Int := digf (writef H0 b)
theorem reads_far {w : World} {k : IntKind} {A : Option Addr} {n : Nat} {xs : List Int} (h : ReadsInt w k A n xs) : ∀ ad, A = some ad → 0 < n → ad.block < w.heap.size := by
  intro ad had hn
  obtain ⟨ad', had', hc⟩ := h.2.2 hn
  rw [had] at had'
  injection had' with e
  subst e
  have := hc 0 hn
  exact World.block_lt_of_cell? _ (ad.add 0) this
set_option maxHeartbeats 8000000 in
set_option maxRecDepth 100000 in
theorem dsum_calls (w : World) (A : Option Addr) (c : Nat) (b : List Int) (hF : LaidF w) (hL : LaidR w) (hR : ReadsInt w .u8 A b.length b) (hc : b.length ≤ c) (hn : b.length ≤ 1152921504606846976) :
    Calls Tryd.prog 20 #[.slice A b.length c] w fun e w' => e = .returned (.agg (nums .u8 (dsumf b)).toArray) ∧ Below w.heap.size w w' := by
  have HF := Aside0.mk hF
  have HL := Aside0.mk hL
  have HR := Aside0.mk hR
  have HC := Aside0.mk hc
  have HN := Aside0.mk hn
  have HFAR := Aside0.mk (reads_far hR)
  obtain ⟨ds, hds⟩ : ∃ ds, (nums IntKind.u8 (dsumf b)).toArray = ds := ⟨_, rfl⟩
  have HDS := Aside0.mk hds
  have HI27 := Aside0.mk (show (Tryd.prog.info? 27).map (·.size) = some ds.size by rw [← hds, List.size_toArray, nums_length, dsumf, dig_len]; kernel_rfl)
  have HD32 := Aside0.mk (show ds.size = 32 by rw [← hds, List.size_toArray, nums_length, dsumf, dig_len])
  have HD1 := Aside0.mk (show ds.all (·.oneCell') = true by rw [← hds, Array.all_eq_true_iff_forall_mem]; intro v hv; simp only [nums, List.mem_toArray, List.mem_map] at hv; obtain ⟨y, _, rfl⟩ := hv; rfl)
  rw [hds]
  clear hF hL hR hc hn hds
  go_enter Tryd.func20, Tryd.ntmps20
  go_wp2_with (first
    | ((with_reducible refine gate_dst (N := 2) rfl ?_); refine box_event ?hg (N := 2) ?hd (cs := (nums .u8 (List.replicate 32 0)).toArray) (t := 27) ?hr ?_; (case hd => rfl); (case hg => rfl); (case hr => first | (go_simp; done) | (go_simp; rfl)); intro b2 hb2 w2 hbox hbl; have B2 := Aside0.mk hbox; have HB2 := Aside0.mk hbl; have G2 := Aside0.mk (show w.heap.size ≤ b2 by omega); clear hb2 hbox hbl)
    | (go_at_call 21; (with_reducible refine (new_calls _ (HF.out.up HB2.out)).mono ?_); rintro e w3 ⟨b3, rfl, h3, g3, l3⟩; have H3 := Aside0.mk h3; have HB3 := Aside0.mk (below_step HB2.out l3); have B23 := Aside0.mk (blk_below B2.out l3); have G3 := Aside0.mk (show w.heap.size ≤ b3 by have := HB2.out.size; omega); have N3 := Aside0.mk (show b2 ≠ b3 by have := blk_lt B2.out; omega); clear h3 g3 l3)
    | (go_at_call 22; go_loud (with_reducible refine (write_calls w _ b3 H0 A c b H0_ok H3.out HB3.out G3.out HL.out (HR.out.below HB3.out) HC.out (fun ad had hp => by have := HFAR.out ad had hp; have := G3.out; omega) (by have := HN.out; have e : H0.n = 0 := rfl; omega)).mono ?_); rintro e w7 ⟨rfl, h7, k7, l7⟩; have H37 := Aside0.mk h7; have H27 := Aside0.mk ((k7.2 b2 (blk_lt B23.out) N3.out (by simp)).trans B23.out); have HB7 := Aside0.mk l7; clear h7 k7 l7)
    | (go_at_call 24; go_loud (with_reducible refine (hsum_calls _ b3 (writef H0 b) (writef_ok H0_ok b) H37.out (HL.out.up HB7.out) (by rw [writef_n]; have := HN.out; have e : H0.n = 0 := rfl; omega)).mono ?_); rintro e w8 ⟨rfl, l8⟩; have H28 := Aside0.mk (blk_below H27.out l8); have HB8 := Aside0.mk (below_step HB7.out l8); clear l8; rw [show (nums IntKind.u8 (digf (writef H0 b))).toArray = ds from HDS.out])
    | (refine put_row rfl 27 (.tmp 2) (.tmp 9) rfl b2 ds rfl rfl 27 _ H28.out HI27.out (by rw [HD32.out]; rfl) HD1.out ?_))
  refine bodyPost_ret (results_cell_row rfl _ _ b2 27 ds (0, 0) _ rfl (setRow_heap _ _ _ _ _ _ H28.out) Tryd.underlying27 rfl HI27.out) rfl ?_
  exact ⟨rfl, below_row HB8.out G2.out _⟩
end Go.Proofs.YtoigoiefnapokaaDoor.T
