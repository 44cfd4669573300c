/- The walk of (*digest.Hasher).Write. -/
import Derived.Test.YtoigoiefnapokaaDoorGKMask
set_option linter.unusedVariables false
set_option linter.unusedSimpArgs false
namespace Go.Proofs.YtoigoiefnapokaaDoor.T
open Go.RowKit Go.Proofs.YtoigoiefnapokaaDoorW.PrintWords Go.Proofs.YtoigoiefnapokaaDoorW.PrintLast
/-- What a hasher holds. -/
structure HS where
  s : List Int
  part : List Int
  n : Nat
def HS.ok (x : HS) : Prop := x.s.length = 8 ∧ x.part.length = 64
/-- How many bytes go over in one round; the part and the whole behind it. -/
def HS.k (x : HS) (b : List Int) : Nat := Nat.min b.length (64 - x.n % 64)
def HS.part' (x : HS) (b : List Int) : List Int := x.part.take (x.n % 64) ++ b.take (x.k b) ++ x.part.drop (x.n % 64 + x.k b)
def HS.step (x : HS) (b : List Int) : HS := ⟨if (x.n + x.k b) % 64 = 0 then turnf x.s (x.part' b) else x.s, x.part' b, x.n + x.k b⟩
def writeF : Nat → HS → List Int → HS
  | 0, x, _ => x
  | f + 1, x, b => if b = [] then x else writeF f (x.step b) (b.drop (x.k b))
def writef (x : HS) (b : List Int) : HS := writeF b.length x b
theorem k_pos (x : HS) {b : List Int} (h : b ≠ []) : 0 < x.k b ∧ x.k b ≤ b.length ∧ x.n % 64 + x.k b ≤ 64 := by
  have hl : 0 < b.length := List.length_pos_iff.2 h
  have hm : x.n % 64 < 64 := Nat.mod_lt _ (by decide)
  unfold HS.k
  simp only [Nat.min_def]
  split <;> omega
theorem writeF_more : ∀ (f g : Nat) (x : HS) (b : List Int), b.length ≤ f → b.length ≤ g → writeF f x b = writeF g x b
  | 0, 0, _, _, _, _ => rfl
  | 0, g + 1, x, b, h, _ => by
    have : b = [] := List.length_eq_zero_iff.1 (by omega)
    simp [writeF, this]
  | f + 1, 0, x, b, _, h => by
    have : b = [] := List.length_eq_zero_iff.1 (by omega)
    simp [writeF, this]
  | f + 1, g + 1, x, b, h1, h2 => by
    unfold writeF
    split
    · rfl
    · rename_i hb
      have := k_pos x hb
      exact writeF_more f g _ _ (by rw [List.length_drop]; omega) (by rw [List.length_drop]; omega)
theorem writef_nil (x : HS) : writef x [] = x := rfl
theorem writef_step (x : HS) {b : List Int} (h : b ≠ []) : writef x b = writef (x.step b) (b.drop (x.k b)) := by
  have hp := k_pos x h
  unfold writef
  obtain ⟨m, hm⟩ : ∃ m, b.length = m + 1 := ⟨b.length - 1, by omega⟩
  rw [hm, writeF, if_neg h]
  exact writeF_more _ _ _ _ (by rw [List.length_drop]; omega) (Nat.le_refl _)
theorem part_len {x : HS} (hx : x.ok) {b : List Int} (h : b ≠ []) : (x.part' b).length = 64 := by
  have := k_pos x h
  have := hx.2
  simp only [HS.part', List.length_append, List.length_take, List.length_drop]
  omega
theorem turnf_len {s : List Int} (part : List Int) (h : s.length = 8) : (turnf s part).length = 8 := addf_len _ 8 h
theorem step_ok {x : HS} (hx : x.ok) {b : List Int} (h : b ≠ []) : (x.step b).ok := by
  refine ⟨?_, part_len hx h⟩
  unfold HS.step
  dsimp only
  split
  · exact turnf_len _ hx.1
  · exact hx.1
theorem infoU_ : (Tryd.prog.info? 5).map (·.size) = some 1 := by kernel_rfl
theorem keep_row {w W : World} {g : Nat} (h : KeepBut w W g none) (cs : Array Value) : KeepBut w (W.setRow g cs) g none := ⟨by simpa using h.1, fun i hi hg hr => (setRow_other W g i cs hg).trans (h.2 i hi hg hr)⟩
/-- Bytes laid into the part. -/
theorem hc_copy {s part : List Int} {n : Int} (hs : s.length = 8) (hp : part.length = 64) (a : Nat) (l : List Int) (ha : a + l.length ≤ 64) :
    (hcells s part n).take (8 + a) ++ nums .u8 l ++ (hcells s part n).drop (8 + a + l.length) = hcells s (part.take a ++ l ++ part.drop (a + l.length)) n := by
  have hS : (nums IntKind.u32 s).length = 8 := by rw [nums_length, hs]
  have hP : (nums IntKind.u8 part).length = 64 := by rw [nums_length, hp]
  unfold hcells
  rw [show 8 + a = (nums IntKind.u32 s).length + a by rw [hS], List.take_length_add_append, show (nums IntKind.u32 s).length + a + l.length = (nums IntKind.u32 s).length + (a + l.length) by omega, List.drop_length_add_append,
    List.take_append_of_le_length (by omega), List.drop_append_of_le_length (by omega)]
  simp [nums, List.map_take, List.map_drop, List.append_assoc]
set_option maxHeartbeats 8000000 in
set_option maxRecDepth 100000 in
theorem write_calls (w0 w : World) (bh : Nat) (x : HS) (A : Option Addr) (c : Nat) (b : List Int) (hx : x.ok) (hH : w.heap[bh]? = some (.cells (hcells x.s x.part x.n).toArray 78 (0, 0))) (hB : Below w0.heap.size w0 w) (hg : w0.heap.size ≤ bh) (hL : LaidR w0)
    (hR : ReadsInt w .u8 A b.length b) (hc : b.length ≤ c) (hfar : ∀ ad, A = some ad → 0 < b.length → ad.block ≠ bh) (hn : x.n + b.length ≤ 4611686018427387904) :
    Calls Tryd.prog 22 #[.pointer (some ⟨bh, 0, none⟩), .slice A b.length c] w fun e w' => e = .returned (.tuple #[]) ∧ w'.heap[bh]? = some (.cells (hcells (writef x b).s (writef x b).part (writef x b).n).toArray 78 (0, 0)) ∧ KeepBut w w' bh none ∧ Below w0.heap.size w0 w' := by
  have hu78 := Tryd.underlying78
  have HX := Aside0.mk hx
  have HH := Aside0.mk hH
  have HB := Aside0.mk hB
  have HG := Aside0.mk hg
  have HL := Aside0.mk hL
  have HR := Aside0.mk hR
  have HC := Aside0.mk hc
  have HF := Aside0.mk hfar
  have HN := Aside0.mk hn
  have HKW := Aside0.mk (KeepBut.refl w bh none)
  obtain ⟨z, hz⟩ : ∃ z, writef x b = z := ⟨_, rfl⟩
  have HZ := Aside0.mk hz
  rw [hz]
  clear hx hH hB hg hL hR hc hfar hn hz
  go_enter Tryd.func22, Tryd.ntmps22
  go_wp2
  go_loopg [1] b.length (fun gg s1 wr => ∃ (x : HS) (A : Option Addr) (c : Nat) (b : List Int), Aside0 (b.length ≤ gg) ∧ s1 = .slice A b.length c ∧ Aside0 (writef x b = z) ∧ Aside0 x.ok ∧ Aside0 (wr.heap[bh]? = some (.cells (hcells x.s x.part x.n).toArray 78 (0, 0))) ∧ Aside0 (Below w0.heap.size w0 wr) ∧ Aside0 (KeepBut w wr bh none) ∧ Aside0 ((∀ W', KeepBut wr W' bh none → ReadsInt W' .u8 A b.length b) ∧ b.length ≤ c ∧ x.n + b.length ≤ 4611686018427387904))
  case atStart => exact ⟨x, A, c, b, ⟨Nat.le_refl _⟩, rfl, HZ, HX, HH, HB, HKW, ⟨fun W' hk => HR.out.keep hk HF.out, HC.out, HN.out⟩⟩
  case round =>
    clear HX HH HB HR HC HF HN HKW HZ
    obtain ⟨x, A, c, b, HM, rfl, HZ, HX, HH, HB, HKW, HR⟩ := hrel
    by_cases hb : b = []
    · subst hb
      rw [writef_nil] at HZ
      go_wp2
      first | go_end0 | ((try simp only [Exit.inBlock, Exit.then]); refine bodyPost_ret (results_none rfl _ _ _) rfl ?_)
      all_goals exact ⟨rfl, by rw [← HZ.out]; exact HH.out, HKW.out, HB.out⟩
    · have hp := k_pos x hb
      have hlb : 0 < b.length := by omega
      have hd0 : decide ((b.length : Int) > 0) = true := decide_eq_true (by omega)
      have hd1 : decide ((0 : Int) < (b.length : Int)) = true := decide_eq_true (by omega)
      obtain ⟨ad, rfl, hcell⟩ := (HR.out.1 wr (KeepBut.refl _ _ _)).2.2 hlb
      have c72 : wr.cell? ⟨bh, 72, none⟩ = some (.int .i64 (x.n : Int)) := arr_cell HH.out 72 (hc_n HX.out.1 HX.out.2)
      have htm : Int.tmod (x.n : Int) 64 = ((x.n % 64 : Nat) : Int) := by rw [Int.tmod_eq_emod_of_nonneg (by omega)]; omega
      obtain ⟨at_, hat⟩ : ∃ m, x.n % 64 = m := ⟨_, rfl⟩
      rw [hat] at htm hp
      have q0 : (0 : Int) ≤ (at_ : Int) := by omega
      have q1 : (at_ : Int) ≤ 64 := by omega
      have q2 : (at_ : Int) < 64 := by omega
      have hkm : x.k b = Nat.min b.length (64 - at_) := by unfold HS.k; rw [hat]
      have hpart : x.part' b = x.part.take at_ ++ b.take (x.k b) ++ x.part.drop (at_ + x.k b) := by unfold HS.part'; rw [hat]
      obtain ⟨k, hk⟩ : ∃ k, x.k b = k := ⟨_, rfl⟩
      rw [hk] at hp hkm hpart
      have hlt : (b.take k).length = k := by rw [List.length_take]; omega
      have hcp : (Builtin.copy_ #[22, 22] 3 #[.slice (some ⟨bh, 8 + at_, none⟩) (64 - at_) (64 - at_), .slice (some ad) b.length c]).run Tryd.prog wr = .ok (.int .i64 (k : Int)) (wr.setRow bh (hcells x.s (x.part' b) x.n).toArray) := by
        have h := run_copy_row (P := Tryd.prog) wr 22 22 3 5 bh (8 + at_) (64 - at_) (64 - at_) ad b.length c (hcells x.s x.part x.n).toArray 78 (nums .u8 (b.take k)) Tryd.underlying22 (by kernel_rfl) HH.out (by rw [nums_length, hlt, hkm])
          (fun j v hj => by
            have hj' : j < k := by have := (List.getElem?_eq_some_iff.1 hj).1; rw [nums_length, hlt] at this; exact this
            have := nums_get (k := .u8) (xs := b.take k) j (by rw [hlt]; exact hj')
            rw [this] at hj
            injection hj with hj
            rw [← hj, hcell j (by omega)]
            simp [List.getD_eq_getElem?_getD, List.getElem?_take, hj'])
          (by rw [nums_length, hlt, List.size_toArray, hc_len HX.out.1 HX.out.2]; omega) (by intro v hv; simp only [nums, List.mem_map] at hv; obtain ⟨y, _, rfl⟩ := hv; rfl)
        rw [h, nums_length, hlt]
        have e := hc_copy (n := (x.n : Int)) HX.out.1 HX.out.2 at_ (b.take k) (by rw [hlt]; omega)
        rw [hlt] at e
        rw [hpart, ← e]
        rfl
      have HAT := Aside0.mk hat
      have HP := Aside0.mk hp
      clear hat hp hb
      have q3 : (0 : Int) ≤ (k : Int) := by omega
      have q4 : (k : Int) ≤ (b.length : Int) := by have := HP.out; omega
      have HKK := Aside0.mk (And.intro hk (And.intro hkm hpart))
      obtain ⟨i0, hi0, hsz0⟩ := Option.map_eq_some_iff.1 infoU_
      obtain ⟨A1, hcut, hA1⟩ := print_cut (P := Tryd.prog) 22 5 .i64 Tryd.underlying22 hi0 hsz0 (some ad) b.length c k (by have := HP.out; omega)
      obtain ⟨M, hM⟩ : ∃ M, x.n + k = M := ⟨_, rfl⟩
      have e1 : (x.n : Int) + (k : Int) = (M : Int) := by omega
      have e2 : M ≤ 9223372036854775807 := by have := HR.out.2.2; have := HP.out; omega
      have HST := Aside0.mk (show x.step b = ⟨if M % 64 = 0 then turnf x.s (x.part' b) else x.s, x.part' b, M⟩ by unfold HS.step; rw [hk, hM])
      have HNXT := Aside0.mk (show writef x b = writef (x.step b) (b.drop k) by rw [writef_step x (List.length_pos_iff.1 hlb), hk])
      have HSOK := Aside0.mk (step_ok HX.out (List.length_pos_iff.1 hlb))
      have HMB := Aside0.mk (show M + (b.drop k).length ≤ 4611686018427387904 by rw [List.length_drop]; have := HR.out.2.2; have := HP.out; omega)
      have htm2 : Int.tmod (M : Int) 64 = ((M % 64 : Nat) : Int) := by rw [Int.tmod_eq_emod_of_nonneg (by omega)]; omega
      clear hi0 hsz0 hM
      have HA1 := Aside0.mk hA1
      have HHN := Aside0.mk (setRow_heap wr bh _ (hcells x.s (x.part' b) x.n).toArray _ _ HH.out)
      have HPL := Aside0.mk (part_len HX.out (List.length_pos_iff.1 hlb))
      have c72n : (wr.setRow bh (hcells x.s (x.part' b) x.n).toArray).cell? ⟨bh, 72, none⟩ = some (.int .i64 (x.n : Int)) := arr_cell HHN.out 72 (hc_n HX.out.1 HPL.out)
      have z72n := blk_frozen HHN.out 72
      have HHM := Aside0.mk (show ((wr.setRow bh (hcells x.s (x.part' b) x.n).toArray).setCell ⟨bh, 72, none⟩ (.int .i64 (M : Int))).heap[bh]? = some (.cells (hcells x.s (x.part' b) M).toArray 78 (0, 0)) from by have h := arr_put HHN.out 72 (.int .i64 (M : Int)); rw [hc_set_n HX.out.1 HPL.out] at h; exact h)
      have HBM := Aside0.mk (show Below w0.heap.size w0 ((wr.setRow bh (hcells x.s (x.part' b) x.n).toArray).setCell ⟨bh, 72, none⟩ (.int .i64 (M : Int))) from (below_row HB.out HG.out _).setCell HG.out _)
      have HKR := Aside0.mk (show KeepBut wr ((wr.setRow bh (hcells x.s (x.part' b) x.n).toArray).setCell ⟨bh, 72, none⟩ (.int .i64 (M : Int))) bh none from KeepBut.set_ (keep_row (KeepBut.refl _ _ _) _) 72 _)
      have hmm : M % 64 = 0 ∨ M % 64 ≠ 0 := Decidable.em _
      obtain ⟨hwm, hvm⟩ := idx_at e1 e2
      clear hk hkm hpart hlt hA1 e1 e2
      generalize hWS : ((wr.setRow bh (hcells x.s (x.part' b) x.n).toArray).setCell ⟨bh, 72, none⟩ (.int .i64 (M : Int))) = W4 at HHM HBM HKR
      have cM : W4.cell? ⟨bh, 72, none⟩ = some (.int .i64 (M : Int)) := arr_cell HHM.out 72 (hc_n HX.out.1 HPL.out)
      rcases hmm with hm | hm
      · rw [hm] at htm2
        go_wp2_with (fail)
        have HTC := Aside0.mk (turn_calls w0 W4.drew bh x.s (x.part' b) M HX.out.1 HPL.out (blk_drew HHM.out) (below_drew HBM.out) HG.out (HL.out.up (below_drew HBM.out)))
        go_region_held3 (fun _ => True)
          (trivial)
          ((go_at_call 32; (with_reducible refine HTC.out.mono ?_); rintro e w5 ⟨rfl, h5, k5, b5⟩; have H5 := Aside0.mk h5; have K5 := Aside0.mk (HKR.out.trans (show KeepBut W4 w5 bh none from k5) (Or.inl rfl)); have B5 := Aside0.mk b5; clear h5 k5 b5))
        clear hwm hvm hWS cM c72 c72n z72n hcp hcut htm htm2 HHN
        go_wp2_with (fail)
        go_roundg (b.length - k)
        case measure => have := HM.out; have := HP.out; omega
        case rel =>
          refine ⟨x.step b, A1, c - k, b.drop k, ⟨by rw [List.length_drop]; exact Nat.le_refl _⟩, by rw [List.length_drop], ⟨by rw [← HNXT.out]; exact HZ.out⟩, HSOK, ⟨?_⟩, B5, ⟨HKW.out.trans K5.out (Or.inl rfl)⟩, ⟨fun W' hk' => ?_, by rw [List.length_drop]; have := HR.out.2.1; omega, by rw [HST.out]; exact HMB.out⟩⟩
          · rw [HST.out]; dsimp only; rw [if_pos hm]; exact H5.out
          · have h := HA1.out W' .u8 b HR.out.2.1 (HR.out.1 W' (K5.out.trans hk' (Or.inl rfl)))
            rw [List.length_drop]; exact h
      · obtain ⟨r, hr⟩ : ∃ r, M % 64 = r := ⟨_, rfl⟩
        have hne : ((r : Int) == 0) = false := by rw [beq_eq_false_iff_ne]; omega
        rw [hr] at htm2
        go_wp2_with (fail)
        clear hwm hvm hWS cM c72 c72n z72n hcp hcut htm htm2 HHN
        go_roundg (b.length - k)
        case measure => have := HM.out; have := HP.out; omega
        case rel =>
          refine ⟨x.step b, A1, c - k, b.drop k, ⟨by rw [List.length_drop]; exact Nat.le_refl _⟩, by rw [List.length_drop], ⟨by rw [← HNXT.out]; exact HZ.out⟩, HSOK, ⟨?_⟩, HBM, ⟨HKW.out.trans HKR.out (Or.inl rfl)⟩, ⟨fun W' hk' => ?_, by rw [List.length_drop]; have := HR.out.2.1; omega, by rw [HST.out]; exact HMB.out⟩⟩
          · rw [HST.out]; dsimp only; rw [if_neg hm]; exact HHM.out
          · have h := HA1.out W' .u8 b HR.out.2.1 (HR.out.1 W' (HKR.out.trans hk' (Or.inl rfl)))
            rw [List.length_drop]; exact h
end Go.Proofs.YtoigoiefnapokaaDoor.T
