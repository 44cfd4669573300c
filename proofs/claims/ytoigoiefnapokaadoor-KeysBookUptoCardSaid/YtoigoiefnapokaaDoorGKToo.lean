/- The walk of hearsaylaw18.signedToo, where it says yes. -/
import Derived.Test.YtoigoiefnapokaaDoorGKRows
set_option linter.unusedVariables false
set_option linter.unusedSimpArgs false
namespace Go.Proofs.YtoigoiefnapokaaDoor.T
open Go.RowKit Go.Maps Go.MuLone Go.Proofs.YtoigoiefnapokaaDoorW.PrintWords Go.Proofs.YtoigoiefnapokaaDoorW.PrintLast
set_option maxHeartbeats 8000000 in
set_option maxRecDepth 100000 in
theorem too_calls (w : World) (A B : Option Addr) (cA cB : Nat) (ps : List Pr) (ds : List (List Int)) (hA : kP.C w A ps.length ps) (hB : kD.C w B ds.length ds) (hl : ds.length = ps.length) (hps : ∀ p ∈ ps, IsD p.2) (hds : ∀ d ∈ ds, IsD d) (q : Pr) (hq : IsD q.2) (s : List Int) (hs : IsD s)
    (hex : ∃ (i : Nat) (p : Pr), ps[i]? = some p ∧ ds[i]? = some s ∧ nm p.1 = nm q.1 ∧ p.2 = q.2) (hn : ps.length ≤ 9223372036854775806) :
    Calls Tryd.prog 12 #[.slice A ps.length cA, .slice B ds.length cB, pairP q, digV s] w fun e w' => e = .returned (.bool true) ∧ Below w.heap.size w w' := by
  have HA := Aside0.mk hA
  have HB := Aside0.mk hB
  have HLN := Aside0.mk hl
  have HPS := Aside0.mk hps
  have HDS := Aside0.mk hds
  have HQ := Aside0.mk hq
  have HS := Aside0.mk hs
  have HEX := Aside0.mk hex
  have HN := Aside0.mk hn
  clear hA hB hl hps hds hq hs hex hn
  unfold digV pairP
  go_enter Tryd.func12, Tryd.ntmps12
  go_wp2_with (first
    | ((with_reducible refine gate_dst (N := 6) rfl ?_); refine box_event ?hg (N := 6) ?hd (cs := (.int .i64 q.1 :: nums .u8 q.2).toArray) (t := 35) ?hr ?_; (case hd => rfl); (case hg => rfl); (case hr => first | (go_simp; done) | (go_simp; rfl)); intro b6 h6 w1 hbox hbl; have B6 := Aside0.mk hbox; have L1 := Aside0.mk hbl; clear h6 hbox hbl)
    | ((with_reducible refine gate_dst (N := 7) rfl ?_); refine box_event ?hg (N := 7) ?hd (cs := (nums .u8 s).toArray) (t := 27) ?hr ?_; (case hd => rfl); (case hg => rfl); (case hr => first | (go_simp; done) | (go_simp; rfl)); intro b7 h7 w2 hbox hbl; have B7 := Aside0.mk hbox; have L2 := Aside0.mk (below_step L1.out hbl); have B62 := Aside0.mk (blk_below B6.out hbl); clear h7 hbox hbl))
  go_loopg [9] ps.length (fun gg s9 wr => ∃ (i : Nat), Aside0 (i ≤ ps.length ∧ ps.length - i ≤ gg) ∧ s9 = .int .i64 (i : Int) ∧ Aside0 (wr.heap[b6]? = some (.cells (.int .i64 q.1 :: nums .u8 q.2).toArray 35 (0, 0))) ∧ Aside0 (wr.heap[b7]? = some (.cells (nums .u8 s).toArray 27 (0, 0))) ∧ Aside0 (Below w.heap.size w wr) ∧ Aside0 (∃ (j : Nat) (p : Pr), i ≤ j ∧ ps[j]? = some p ∧ ds[j]? = some s ∧ nm p.1 = nm q.1 ∧ p.2 = q.2))
  case atStart => exact ⟨0, ⟨Nat.zero_le _, Nat.le_refl _⟩, rfl, B62, B7, L2, ⟨by obtain ⟨j, p, h⟩ := HEX.out; exact ⟨j, p, Nat.zero_le _, h⟩⟩⟩
  case round =>
    clear B6 L1 B7 L2 B62
    obtain ⟨i, HI, rfl, B6, B7, HB0, HJ⟩ := hrel
    have hlt : (i : Int) < (ps.length : Int) := by
      obtain ⟨j, p, hij, hj, _⟩ := HJ.out
      have := (List.getElem?_eq_some_iff.1 hj).1
      omega
    have HLT := Aside0.mk (show i < ps.length by omega)
    have hltb : decide ((i : Int) < (ps.length : Int)) = true := decide_eq_true hlt
    have hltn : decide (i < ps.length) = true := decide_eq_true HLT.out
    obtain ⟨p, hp⟩ : ∃ p, ps[i]? = some p := ⟨_, List.getElem?_eq_getElem HLT.out⟩
    obtain ⟨d, hd⟩ : ∃ d, ds[i]? = some d := ⟨_, List.getElem?_eq_getElem (by rw [HLN.out]; exact HLT.out)⟩
    have HP := Aside0.mk hp
    have HD := Aside0.mk hd
    have HPD := Aside0.mk (HPS.out p (List.mem_of_getElem? hp))
    have HDD := Aside0.mk (HDS.out d (List.mem_of_getElem? hd))
    obtain ⟨ad, had, _⟩ := HA.out.2.2 (by have := HLT.out; omega)
    obtain ⟨bd, hbd, _⟩ := HB.out.2.2 (by have := HLT.out; have := HLN.out; omega)
    subst had
    subst hbd
    have p0 : (0 : Int) ≤ (i : Int) := by omega
    have en : (i : Int) + 1 = ((i + 1 : Nat) : Int) := by omega
    have mn : i + 1 ≤ 9223372036854775807 := by have := HLT.out; have := HN.out; omega
    obtain ⟨hwn, hvn⟩ := idx_at en mn
    clear en mn hlt hp hd
    go_wp2_with (fail)
    by_cases hN : nm p.1 = nm q.1
    · by_cases hD : p.2 = q.2
      · by_cases hS : d = s
        · have HSS := Aside0.mk hS
          have HDD2 := Aside0.mk hD
          have HNN := Aside0.mk hN
          clear hS hD hN
          refine start_ (n := 28) (S := fun w' => kP.C w' (some ad) ps.length ps ∧ kD.C w' (some bd) ds.length ds ∧ w'.heap[b6]? = some (.cells (.int .i64 q.1 :: nums .u8 q.2).toArray 35 (0, 0)) ∧ w'.heap[b7]? = some (.cells (nums .u8 s).toArray 27 (0, 0)) ∧ Below w.heap.size w w') (ds := []) #[false, false, false, false, false, false, false, false, false, false, false, false, false, false, false, false, false, false, false, false, false, false, false, false, false, false, false, false] (by kernel_rfl) rfl rfl ⟨Kd.C_below HA.out (below_drew HB0.out), Kd.C_below HB.out (below_drew HB0.out), blk_drew B6.out, blk_drew B7.out, below_drew HB0.out⟩ (fun hHeld => ?_)
          refine pure_ (i := 0) (N := some 16) (v := ?v1) (a' := ?a1) #[true, false, false, false, false, false, false, false, false, false, false, false, false, false, false, false, false, false, false, false, false, false, false, false, false, false, false, false] rfl rfl (by kernel_rfl) (fun _ _ _ h => h) (Or.inl ⟨by rfl, ?hy1⟩) ?ha1 ?hh1
          case hy1 =>
            intro w'
            go_simp
            with_reducible rfl
          case ha1 =>
            simp only [Act.put, List.setIfInBounds_toArray, List.set_cons_zero, List.set_cons_succ]
            rfl
          refine pure_ (i := 1) (N := some 17) (v := ?v2) (a' := ?a2) #[true, true, false, false, false, false, false, false, false, false, false, false, false, false, false, false, false, false, false, false, false, false, false, false, false, false, false, false] rfl rfl (by kernel_rfl) (fun _ _ _ h => h) (Or.inl ⟨by rfl, ?hy2⟩) ?ha2 ?hh2
          case hy2 =>
            intro w'
            go_simp
            with_reducible rfl
          case ha2 =>
            simp only [Act.put, List.setIfInBounds_toArray, List.set_cons_zero, List.set_cons_succ]
            rfl
          refine pure_ (i := 2) (N := some 18) (v := (.pointer (some (ad.add (i * 33))))) (a' := ?a3) #[true, true, true, false, false, false, false, false, false, false, false, false, false, false, false, false, false, false, false, false, false, false, false, false, false, false, false, false] rfl rfl (by kernel_rfl) (fun _ _ _ h => h) (Or.inl ⟨by rfl, fun w' => idxP_run (.tmp 16) (.tmp 17) rfl ad ps.length cA i rfl rfl HLT.out⟩) ?ha3 ?hh3
          case ha3 =>
            simp only [Act.put, List.setIfInBounds_toArray, List.set_cons_zero, List.set_cons_succ]
            rfl
          refine pure_ (i := 3) (N := some 19) (v := (.pointer (some (ad.add (i * 33))))) (a' := ?a4) #[true, true, true, true, false, false, false, false, false, false, false, false, false, false, false, false, false, false, false, false, false, false, false, false, false, false, false, false] rfl rfl (by kernel_rfl) (fun _ _ _ h => h) (Or.inl ⟨by rfl, fun w' => fld0_run (.tmp 18) rfl _ rfl⟩) ?ha4 ?hh4
          case ha4 =>
            simp only [Act.put, List.setIfInBounds_toArray, List.set_cons_zero, List.set_cons_succ]
            rfl
          refine take_ (i := 4) (N := some 20) (v := (.int .i64 p.1)) (a' := ?a5) #[true, true, true, true, true, false, false, false, false, false, false, false, false, false, false, false, false, false, false, false, false, false, false, false, false, false, false, false] rfl rfl (by kernel_rfl) (fun _ _ _ h => h) (Or.inl ⟨by rfl, fun w' s0 => loadI_run (.tmp 19) rfl _ rfl _ (pair_at s0.1 HP.out).1⟩) hHeld ?ha5 ?hh5
          case ha5 =>
            simp only [Act.put, List.setIfInBounds_toArray, List.set_cons_zero, List.set_cons_succ]
            rfl
          refine pure_ (i := 6) (N := some 22) (v := (.pointer (some ⟨b6, 0, none⟩))) (a' := ?a6) #[true, true, true, true, true, false, true, false, false, false, false, false, false, false, false, false, false, false, false, false, false, false, false, false, false, false, false, false] rfl rfl (by kernel_rfl) (fun _ _ _ h => h) (Or.inl ⟨by rfl, fun w' => fld0_run (.tmp 6) rfl _ rfl⟩) ?ha6 ?hh6
          case ha6 =>
            simp only [Act.put, List.setIfInBounds_toArray, List.set_cons_zero, List.set_cons_succ]
            rfl
          refine take_ (i := 7) (N := some 23) (v := (.int .i64 q.1)) (a' := ?a7) #[true, true, true, true, true, false, true, true, false, false, false, false, false, false, false, false, false, false, false, false, false, false, false, false, false, false, false, false] rfl rfl (by kernel_rfl) (fun _ _ _ h => h) (Or.inl ⟨by rfl, fun w' s0 => loadI_run (.tmp 22) rfl _ rfl _ (arr_cell s0.2.2.1 0 rfl)⟩) hHeld ?ha7 ?hh7
          case ha7 =>
            simp only [Act.put, List.setIfInBounds_toArray, List.set_cons_zero, List.set_cons_succ]
            rfl
          refine one_ (i := 5) (N := some 21) #[true, true, true, true, true, true, true, true, false, false, false, false, false, false, false, false, false, false, false, false, false, false, false, false, false, false, false, false] rfl rfl (by kernel_rfl) (by decide) (fun K hK => ?_)
          refine goes_ Tryd.func9 (by kernel_rfl) rfl #[.int .i64 p.1] (by rfl) rfl rfl (by simp only [List.map_toArray, List.map_cons, List.map_nil]; rfl) ?_
          refine (name_calls p.1 _).mono ?_
          rintro e wc1 ⟨rfl, lc1⟩
          refine ⟨_, rfl, hK.out _ _ ⟨Kd.C_below hHeld.1 lc1, Kd.C_below hHeld.2.1 lc1, blk_below hHeld.2.2.1 lc1, blk_below hHeld.2.2.2.1 lc1, below_step hHeld.2.2.2.2 lc1⟩ (fun hHeld => ?_)⟩
          clear hK K lc1
          refine norm_ (a' := ?a8) ?ha8 ?hh8
          case ha8 =>
            show Act.put _ (some 21) _ = _
            simp only [Act.put, List.setIfInBounds_toArray, List.set_cons_zero, List.set_cons_succ]
            rfl
          refine one_ (i := 8) (N := some 24) #[true, true, true, true, true, true, true, true, true, false, false, false, false, false, false, false, false, false, false, false, false, false, false, false, false, false, false, false] rfl rfl (by kernel_rfl) (by decide) (fun K hK => ?_)
          refine goes_ Tryd.func9 (by kernel_rfl) rfl #[.int .i64 q.1] (by rfl) rfl rfl (by simp only [List.map_toArray, List.map_cons, List.map_nil]; rfl) ?_
          refine (name_calls q.1 _).mono ?_
          rintro e wc2 ⟨rfl, lc2⟩
          refine ⟨_, rfl, hK.out _ _ ⟨Kd.C_below hHeld.1 lc2, Kd.C_below hHeld.2.1 lc2, blk_below hHeld.2.2.1 lc2, blk_below hHeld.2.2.2.1 lc2, below_step hHeld.2.2.2.2 lc2⟩ (fun hHeld => ?_)⟩
          clear hK K lc2
          refine norm_ (a' := ?a9) ?ha9 ?hh9
          case ha9 =>
            show Act.put _ (some 24) _ = _
            simp only [Act.put, List.setIfInBounds_toArray, List.set_cons_zero, List.set_cons_succ]
            rfl
          refine pure_ (i := 9) (N := some 25) (v := (.bool true)) (a' := ?a10) #[true, true, true, true, true, true, true, true, true, true, false, false, false, false, false, false, false, false, false, false, false, false, false, false, false, false, false, false] rfl rfl (by kernel_rfl) (fun _ _ _ h => h) (Or.inl ⟨by rfl, fun w' => eqlS_run _ _ (.tmp 21) (.tmp 24) rfl rfl _ _ rfl rfl true (decide_eq_true HNN.out)⟩) ?ha10 ?hh10
          case ha10 =>
            simp only [Act.put, List.setIfInBounds_toArray, List.set_cons_zero, List.set_cons_succ]
            rfl
          refine pure_ (i := 10) (N := some 26) (v := ?v11) (a' := ?a11) #[true, true, true, true, true, true, true, true, true, true, true, false, false, false, false, false, false, false, false, false, false, false, false, false, false, false, false, false] rfl rfl (by kernel_rfl) (fun _ _ _ h => h) (Or.inl ⟨by rfl, ?hy11⟩) ?ha11 ?hh11
          case hy11 =>
            intro w'
            go_simp
            with_reducible rfl
          case ha11 =>
            simp only [Act.put, List.setIfInBounds_toArray, List.set_cons_zero, List.set_cons_succ]
            rfl
          refine pure_ (i := 11) (N := some 27) (v := ?v12) (a' := ?a12) #[true, true, true, true, true, true, true, true, true, true, true, true, false, false, false, false, false, false, false, false, false, false, false, false, false, false, false, false] rfl rfl (by kernel_rfl) (fun _ _ _ h => h) (Or.inl ⟨by rfl, ?hy12⟩) ?ha12 ?hh12
          case hy12 =>
            intro w'
            go_simp
            with_reducible rfl
          case ha12 =>
            simp only [Act.put, List.setIfInBounds_toArray, List.set_cons_zero, List.set_cons_succ]
            rfl
          refine pure_ (i := 12) (N := some 28) (v := ?v13) (a' := ?a13) #[true, true, true, true, true, true, true, true, true, true, true, true, true, false, false, false, false, false, false, false, false, false, false, false, false, false, false, false] rfl rfl (by kernel_rfl) (fun _ _ _ h => h) (Or.inl ⟨by rfl, ?hy13⟩) ?ha13 ?hh13
          case hy13 =>
            intro w'
            go_simp
            with_reducible rfl
          case ha13 =>
            simp only [Act.put, List.setIfInBounds_toArray, List.set_cons_zero, List.set_cons_succ]
            rfl
          refine pure_ (i := 13) (N := some 29) (v := (.pointer (some (ad.add (i * 33))))) (a' := ?a14) #[true, true, true, true, true, true, true, true, true, true, true, true, true, true, false, false, false, false, false, false, false, false, false, false, false, false, false, false] rfl rfl (by kernel_rfl) (fun _ _ _ h => h) (Or.inl ⟨by rfl, fun w' => idxP_run (.tmp 27) (.tmp 28) rfl ad ps.length cA i rfl rfl HLT.out⟩) ?ha14 ?hh14
          case ha14 =>
            simp only [Act.put, List.setIfInBounds_toArray, List.set_cons_zero, List.set_cons_succ]
            rfl
          refine pure_ (i := 14) (N := some 30) (v := (.pointer (some (ad.add (i * 33 + 1))))) (a' := ?a15) #[true, true, true, true, true, true, true, true, true, true, true, true, true, true, true, false, false, false, false, false, false, false, false, false, false, false, false, false] rfl rfl (by kernel_rfl) (fun _ _ _ h => h) (Or.inl ⟨by rfl, fun w' => fld1_run (.tmp 29) rfl ad i rfl⟩) ?ha15 ?hh15
          case ha15 =>
            simp only [Act.put, List.setIfInBounds_toArray, List.set_cons_zero, List.set_cons_succ]
            rfl
          refine take_ (i := 15) (N := some 31) (v := (.agg (nums .u8 p.2).toArray)) (a' := ?a16) #[true, true, true, true, true, true, true, true, true, true, true, true, true, true, true, true, false, false, false, false, false, false, false, false, false, false, false, false] rfl rfl (by kernel_rfl) (fun _ _ _ h => h) (Or.inl ⟨by rfl, fun w' s0 => loadD_run (.tmp 30) rfl _ rfl _ (pair_at s0.1 HP.out).2.2 (pair_at s0.1 HP.out).2.1⟩) hHeld ?ha16 ?hh16
          case ha16 =>
            simp only [Act.put, List.setIfInBounds_toArray, List.set_cons_zero, List.set_cons_succ]
            rfl
          refine pure_ (i := 16) (N := some 32) (v := (.pointer (some ⟨b6, 1, none⟩))) (a' := ?a17) #[true, true, true, true, true, true, true, true, true, true, true, true, true, true, true, true, true, false, false, false, false, false, false, false, false, false, false, false] rfl rfl (by kernel_rfl) (fun _ _ _ h => h) (Or.inl ⟨by rfl, fun w' => fldB1_run (.tmp 6) rfl b6 rfl⟩) ?ha17 ?hh17
          case ha17 =>
            simp only [Act.put, List.setIfInBounds_toArray, List.set_cons_zero, List.set_cons_succ]
            rfl
          refine take_ (i := 17) (N := some 33) (v := (.agg (nums .u8 q.2).toArray)) (a' := ?a18) #[true, true, true, true, true, true, true, true, true, true, true, true, true, true, true, true, true, true, false, false, false, false, false, false, false, false, false, false] rfl rfl (by kernel_rfl) (fun _ _ _ h => h) (Or.inl ⟨by rfl, fun w' s0 => loadD_run (.tmp 32) rfl _ rfl _ HQ.out.1 (boxP_dig s0.2.2.1)⟩) hHeld ?ha18 ?hh18
          case ha18 =>
            simp only [Act.put, List.setIfInBounds_toArray, List.set_cons_zero, List.set_cons_succ]
            rfl
          refine pure_ (i := 18) (N := some 34) (v := (.bool true)) (a' := ?a19) #[true, true, true, true, true, true, true, true, true, true, true, true, true, true, true, true, true, true, true, false, false, false, false, false, false, false, false, false] rfl rfl (by kernel_rfl) (fun _ _ _ h => h) (Or.inl ⟨by rfl, fun w' => eqlD_run _ (.tmp 31) (.tmp 33) rfl _ _ rfl rfl HPD.out HQ.out true (decide_eq_true HDD2.out)⟩) ?ha19 ?hh19
          case ha19 =>
            simp only [Act.put, List.setIfInBounds_toArray, List.set_cons_zero, List.set_cons_succ]
            rfl
          refine pure_ (i := 19) (N := some 35) (v := ?v20) (a' := ?a20) #[true, true, true, true, true, true, true, true, true, true, true, true, true, true, true, true, true, true, true, true, false, false, false, false, false, false, false, false] rfl rfl (by kernel_rfl) (fun _ _ _ h => h) (Or.inl ⟨by rfl, ?hy20⟩) ?ha20 ?hh20
          case hy20 =>
            intro w'
            go_simp
            with_reducible rfl
          case ha20 =>
            simp only [Act.put, List.setIfInBounds_toArray, List.set_cons_zero, List.set_cons_succ]
            rfl
          refine pure_ (i := 20) (N := some 36) (v := ?v21) (a' := ?a21) #[true, true, true, true, true, true, true, true, true, true, true, true, true, true, true, true, true, true, true, true, true, false, false, false, false, false, false, false] rfl rfl (by kernel_rfl) (fun _ _ _ h => h) (Or.inl ⟨by rfl, ?hy21⟩) ?ha21 ?hh21
          case hy21 =>
            intro w'
            go_simp
            with_reducible rfl
          case ha21 =>
            simp only [Act.put, List.setIfInBounds_toArray, List.set_cons_zero, List.set_cons_succ]
            rfl
          refine pure_ (i := 21) (N := some 37) (v := ?v22) (a' := ?a22) #[true, true, true, true, true, true, true, true, true, true, true, true, true, true, true, true, true, true, true, true, true, true, false, false, false, false, false, false] rfl rfl (by kernel_rfl) (fun _ _ _ h => h) (Or.inl ⟨by rfl, ?hy22⟩) ?ha22 ?hh22
          case hy22 =>
            intro w'
            go_simp
            with_reducible rfl
          case ha22 =>
            simp only [Act.put, List.setIfInBounds_toArray, List.set_cons_zero, List.set_cons_succ]
            rfl
          refine pure_ (i := 22) (N := some 38) (v := ?v23) (a' := ?a23) #[true, true, true, true, true, true, true, true, true, true, true, true, true, true, true, true, true, true, true, true, true, true, true, false, false, false, false, false] rfl rfl (by kernel_rfl) (fun _ _ _ h => h) (Or.inl ⟨by rfl, ?hy23⟩) ?ha23 ?hh23
          case hy23 =>
            intro w'
            go_simp
            with_reducible rfl
          case ha23 =>
            simp only [Act.put, List.setIfInBounds_toArray, List.set_cons_zero, List.set_cons_succ]
            rfl
          refine pure_ (i := 23) (N := some 39) (v := (.pointer (some (bd.add (i * 32))))) (a' := ?a24) #[true, true, true, true, true, true, true, true, true, true, true, true, true, true, true, true, true, true, true, true, true, true, true, true, false, false, false, false] rfl rfl (by kernel_rfl) (fun _ _ _ h => h) (Or.inl ⟨by rfl, fun w' => idxD_run (.tmp 37) (.tmp 38) rfl bd ds.length cB i rfl rfl (by have := HLT.out; have := HLN.out; omega)⟩) ?ha24 ?hh24
          case ha24 =>
            simp only [Act.put, List.setIfInBounds_toArray, List.set_cons_zero, List.set_cons_succ]
            rfl
          refine take_ (i := 24) (N := some 40) (v := (.agg (nums .u8 d).toArray)) (a' := ?a25) #[true, true, true, true, true, true, true, true, true, true, true, true, true, true, true, true, true, true, true, true, true, true, true, true, true, false, false, false] rfl rfl (by kernel_rfl) (fun _ _ _ h => h) (Or.inl ⟨by rfl, fun w' s0 => loadD_run (.tmp 39) rfl _ rfl _ (dig_at s0.2.1 HD.out).2 (dig_at s0.2.1 HD.out).1⟩) hHeld ?ha25 ?hh25
          case ha25 =>
            simp only [Act.put, List.setIfInBounds_toArray, List.set_cons_zero, List.set_cons_succ]
            rfl
          refine take_ (i := 25) (N := some 41) (v := (.agg (nums .u8 s).toArray)) (a' := ?a26) #[true, true, true, true, true, true, true, true, true, true, true, true, true, true, true, true, true, true, true, true, true, true, true, true, true, true, false, false] rfl rfl (by kernel_rfl) (fun _ _ _ h => h) (Or.inl ⟨by rfl, fun w' s0 => loadB_run (.tmp 7) rfl b7 rfl _ HS.out.1 s0.2.2.2.1⟩) hHeld ?ha26 ?hh26
          case ha26 =>
            simp only [Act.put, List.setIfInBounds_toArray, List.set_cons_zero, List.set_cons_succ]
            rfl
          refine pure_ (i := 26) (N := some 42) (v := (.bool true)) (a' := ?a27) #[true, true, true, true, true, true, true, true, true, true, true, true, true, true, true, true, true, true, true, true, true, true, true, true, true, true, true, false] rfl rfl (by kernel_rfl) (fun _ _ _ h => h) (Or.inl ⟨by rfl, fun w' => eqlD_run _ (.tmp 40) (.tmp 41) rfl _ _ rfl rfl HDD.out HS.out true (decide_eq_true HSS.out)⟩) ?ha27 ?hh27
          case ha27 =>
            simp only [Act.put, List.setIfInBounds_toArray, List.set_cons_zero, List.set_cons_succ]
            rfl
          refine pure_ (i := 27) (N := some 43) (v := ?v28) (a' := ?a28) #[true, true, true, true, true, true, true, true, true, true, true, true, true, true, true, true, true, true, true, true, true, true, true, true, true, true, true, true] rfl rfl (by kernel_rfl) (fun _ _ _ h => h) (Or.inl ⟨by rfl, ?hy28⟩) ?ha28 ?hh28
          case hy28 =>
            intro w'
            go_simp
            with_reducible rfl
          case ha28 =>
            simp only [Act.put, List.setIfInBounds_toArray, List.set_cons_zero, List.set_cons_succ]
            rfl
          refine done_ (by kernel_rfl) ?_
          have HF := Aside0.mk hHeld
          clear hHeld
          go_wp2
          go_ret
          exact ⟨rfl, HF.out.2.2.2.2⟩
        · have HSS := Aside0.mk hS
          have HDD2 := Aside0.mk hD
          have HNN := Aside0.mk hN
          clear hS hD hN
          refine start_ (n := 28) (S := fun w' => kP.C w' (some ad) ps.length ps ∧ kD.C w' (some bd) ds.length ds ∧ w'.heap[b6]? = some (.cells (.int .i64 q.1 :: nums .u8 q.2).toArray 35 (0, 0)) ∧ w'.heap[b7]? = some (.cells (nums .u8 s).toArray 27 (0, 0)) ∧ Below w.heap.size w w') (ds := []) #[false, false, false, false, false, false, false, false, false, false, false, false, false, false, false, false, false, false, false, false, false, false, false, false, false, false, false, false] (by kernel_rfl) rfl rfl ⟨Kd.C_below HA.out (below_drew HB0.out), Kd.C_below HB.out (below_drew HB0.out), blk_drew B6.out, blk_drew B7.out, below_drew HB0.out⟩ (fun hHeld => ?_)
          refine pure_ (i := 0) (N := some 16) (v := ?v29) (a' := ?a29) #[true, false, false, false, false, false, false, false, false, false, false, false, false, false, false, false, false, false, false, false, false, false, false, false, false, false, false, false] rfl rfl (by kernel_rfl) (fun _ _ _ h => h) (Or.inl ⟨by rfl, ?hy29⟩) ?ha29 ?hh29
          case hy29 =>
            intro w'
            go_simp
            with_reducible rfl
          case ha29 =>
            simp only [Act.put, List.setIfInBounds_toArray, List.set_cons_zero, List.set_cons_succ]
            rfl
          refine pure_ (i := 1) (N := some 17) (v := ?v30) (a' := ?a30) #[true, true, false, false, false, false, false, false, false, false, false, false, false, false, false, false, false, false, false, false, false, false, false, false, false, false, false, false] rfl rfl (by kernel_rfl) (fun _ _ _ h => h) (Or.inl ⟨by rfl, ?hy30⟩) ?ha30 ?hh30
          case hy30 =>
            intro w'
            go_simp
            with_reducible rfl
          case ha30 =>
            simp only [Act.put, List.setIfInBounds_toArray, List.set_cons_zero, List.set_cons_succ]
            rfl
          refine pure_ (i := 2) (N := some 18) (v := (.pointer (some (ad.add (i * 33))))) (a' := ?a31) #[true, true, true, false, false, false, false, false, false, false, false, false, false, false, false, false, false, false, false, false, false, false, false, false, false, false, false, false] rfl rfl (by kernel_rfl) (fun _ _ _ h => h) (Or.inl ⟨by rfl, fun w' => idxP_run (.tmp 16) (.tmp 17) rfl ad ps.length cA i rfl rfl HLT.out⟩) ?ha31 ?hh31
          case ha31 =>
            simp only [Act.put, List.setIfInBounds_toArray, List.set_cons_zero, List.set_cons_succ]
            rfl
          refine pure_ (i := 3) (N := some 19) (v := (.pointer (some (ad.add (i * 33))))) (a' := ?a32) #[true, true, true, true, false, false, false, false, false, false, false, false, false, false, false, false, false, false, false, false, false, false, false, false, false, false, false, false] rfl rfl (by kernel_rfl) (fun _ _ _ h => h) (Or.inl ⟨by rfl, fun w' => fld0_run (.tmp 18) rfl _ rfl⟩) ?ha32 ?hh32
          case ha32 =>
            simp only [Act.put, List.setIfInBounds_toArray, List.set_cons_zero, List.set_cons_succ]
            rfl
          refine take_ (i := 4) (N := some 20) (v := (.int .i64 p.1)) (a' := ?a33) #[true, true, true, true, true, false, false, false, false, false, false, false, false, false, false, false, false, false, false, false, false, false, false, false, false, false, false, false] rfl rfl (by kernel_rfl) (fun _ _ _ h => h) (Or.inl ⟨by rfl, fun w' s0 => loadI_run (.tmp 19) rfl _ rfl _ (pair_at s0.1 HP.out).1⟩) hHeld ?ha33 ?hh33
          case ha33 =>
            simp only [Act.put, List.setIfInBounds_toArray, List.set_cons_zero, List.set_cons_succ]
            rfl
          refine pure_ (i := 6) (N := some 22) (v := (.pointer (some ⟨b6, 0, none⟩))) (a' := ?a34) #[true, true, true, true, true, false, true, false, false, false, false, false, false, false, false, false, false, false, false, false, false, false, false, false, false, false, false, false] rfl rfl (by kernel_rfl) (fun _ _ _ h => h) (Or.inl ⟨by rfl, fun w' => fld0_run (.tmp 6) rfl _ rfl⟩) ?ha34 ?hh34
          case ha34 =>
            simp only [Act.put, List.setIfInBounds_toArray, List.set_cons_zero, List.set_cons_succ]
            rfl
          refine take_ (i := 7) (N := some 23) (v := (.int .i64 q.1)) (a' := ?a35) #[true, true, true, true, true, false, true, true, false, false, false, false, false, false, false, false, false, false, false, false, false, false, false, false, false, false, false, false] rfl rfl (by kernel_rfl) (fun _ _ _ h => h) (Or.inl ⟨by rfl, fun w' s0 => loadI_run (.tmp 22) rfl _ rfl _ (arr_cell s0.2.2.1 0 rfl)⟩) hHeld ?ha35 ?hh35
          case ha35 =>
            simp only [Act.put, List.setIfInBounds_toArray, List.set_cons_zero, List.set_cons_succ]
            rfl
          refine one_ (i := 5) (N := some 21) #[true, true, true, true, true, true, true, true, false, false, false, false, false, false, false, false, false, false, false, false, false, false, false, false, false, false, false, false] rfl rfl (by kernel_rfl) (by decide) (fun K hK => ?_)
          refine goes_ Tryd.func9 (by kernel_rfl) rfl #[.int .i64 p.1] (by rfl) rfl rfl (by simp only [List.map_toArray, List.map_cons, List.map_nil]; rfl) ?_
          refine (name_calls p.1 _).mono ?_
          rintro e wc1 ⟨rfl, lc1⟩
          refine ⟨_, rfl, hK.out _ _ ⟨Kd.C_below hHeld.1 lc1, Kd.C_below hHeld.2.1 lc1, blk_below hHeld.2.2.1 lc1, blk_below hHeld.2.2.2.1 lc1, below_step hHeld.2.2.2.2 lc1⟩ (fun hHeld => ?_)⟩
          clear hK K lc1
          refine norm_ (a' := ?a36) ?ha36 ?hh36
          case ha36 =>
            show Act.put _ (some 21) _ = _
            simp only [Act.put, List.setIfInBounds_toArray, List.set_cons_zero, List.set_cons_succ]
            rfl
          refine one_ (i := 8) (N := some 24) #[true, true, true, true, true, true, true, true, true, false, false, false, false, false, false, false, false, false, false, false, false, false, false, false, false, false, false, false] rfl rfl (by kernel_rfl) (by decide) (fun K hK => ?_)
          refine goes_ Tryd.func9 (by kernel_rfl) rfl #[.int .i64 q.1] (by rfl) rfl rfl (by simp only [List.map_toArray, List.map_cons, List.map_nil]; rfl) ?_
          refine (name_calls q.1 _).mono ?_
          rintro e wc2 ⟨rfl, lc2⟩
          refine ⟨_, rfl, hK.out _ _ ⟨Kd.C_below hHeld.1 lc2, Kd.C_below hHeld.2.1 lc2, blk_below hHeld.2.2.1 lc2, blk_below hHeld.2.2.2.1 lc2, below_step hHeld.2.2.2.2 lc2⟩ (fun hHeld => ?_)⟩
          clear hK K lc2
          refine norm_ (a' := ?a37) ?ha37 ?hh37
          case ha37 =>
            show Act.put _ (some 24) _ = _
            simp only [Act.put, List.setIfInBounds_toArray, List.set_cons_zero, List.set_cons_succ]
            rfl
          refine pure_ (i := 9) (N := some 25) (v := (.bool true)) (a' := ?a38) #[true, true, true, true, true, true, true, true, true, true, false, false, false, false, false, false, false, false, false, false, false, false, false, false, false, false, false, false] rfl rfl (by kernel_rfl) (fun _ _ _ h => h) (Or.inl ⟨by rfl, fun w' => eqlS_run _ _ (.tmp 21) (.tmp 24) rfl rfl _ _ rfl rfl true (decide_eq_true HNN.out)⟩) ?ha38 ?hh38
          case ha38 =>
            simp only [Act.put, List.setIfInBounds_toArray, List.set_cons_zero, List.set_cons_succ]
            rfl
          refine pure_ (i := 10) (N := some 26) (v := ?v39) (a' := ?a39) #[true, true, true, true, true, true, true, true, true, true, true, false, false, false, false, false, false, false, false, false, false, false, false, false, false, false, false, false] rfl rfl (by kernel_rfl) (fun _ _ _ h => h) (Or.inl ⟨by rfl, ?hy39⟩) ?ha39 ?hh39
          case hy39 =>
            intro w'
            go_simp
            with_reducible rfl
          case ha39 =>
            simp only [Act.put, List.setIfInBounds_toArray, List.set_cons_zero, List.set_cons_succ]
            rfl
          refine pure_ (i := 11) (N := some 27) (v := ?v40) (a' := ?a40) #[true, true, true, true, true, true, true, true, true, true, true, true, false, false, false, false, false, false, false, false, false, false, false, false, false, false, false, false] rfl rfl (by kernel_rfl) (fun _ _ _ h => h) (Or.inl ⟨by rfl, ?hy40⟩) ?ha40 ?hh40
          case hy40 =>
            intro w'
            go_simp
            with_reducible rfl
          case ha40 =>
            simp only [Act.put, List.setIfInBounds_toArray, List.set_cons_zero, List.set_cons_succ]
            rfl
          refine pure_ (i := 12) (N := some 28) (v := ?v41) (a' := ?a41) #[true, true, true, true, true, true, true, true, true, true, true, true, true, false, false, false, false, false, false, false, false, false, false, false, false, false, false, false] rfl rfl (by kernel_rfl) (fun _ _ _ h => h) (Or.inl ⟨by rfl, ?hy41⟩) ?ha41 ?hh41
          case hy41 =>
            intro w'
            go_simp
            with_reducible rfl
          case ha41 =>
            simp only [Act.put, List.setIfInBounds_toArray, List.set_cons_zero, List.set_cons_succ]
            rfl
          refine pure_ (i := 13) (N := some 29) (v := (.pointer (some (ad.add (i * 33))))) (a' := ?a42) #[true, true, true, true, true, true, true, true, true, true, true, true, true, true, false, false, false, false, false, false, false, false, false, false, false, false, false, false] rfl rfl (by kernel_rfl) (fun _ _ _ h => h) (Or.inl ⟨by rfl, fun w' => idxP_run (.tmp 27) (.tmp 28) rfl ad ps.length cA i rfl rfl HLT.out⟩) ?ha42 ?hh42
          case ha42 =>
            simp only [Act.put, List.setIfInBounds_toArray, List.set_cons_zero, List.set_cons_succ]
            rfl
          refine pure_ (i := 14) (N := some 30) (v := (.pointer (some (ad.add (i * 33 + 1))))) (a' := ?a43) #[true, true, true, true, true, true, true, true, true, true, true, true, true, true, true, false, false, false, false, false, false, false, false, false, false, false, false, false] rfl rfl (by kernel_rfl) (fun _ _ _ h => h) (Or.inl ⟨by rfl, fun w' => fld1_run (.tmp 29) rfl ad i rfl⟩) ?ha43 ?hh43
          case ha43 =>
            simp only [Act.put, List.setIfInBounds_toArray, List.set_cons_zero, List.set_cons_succ]
            rfl
          refine take_ (i := 15) (N := some 31) (v := (.agg (nums .u8 p.2).toArray)) (a' := ?a44) #[true, true, true, true, true, true, true, true, true, true, true, true, true, true, true, true, false, false, false, false, false, false, false, false, false, false, false, false] rfl rfl (by kernel_rfl) (fun _ _ _ h => h) (Or.inl ⟨by rfl, fun w' s0 => loadD_run (.tmp 30) rfl _ rfl _ (pair_at s0.1 HP.out).2.2 (pair_at s0.1 HP.out).2.1⟩) hHeld ?ha44 ?hh44
          case ha44 =>
            simp only [Act.put, List.setIfInBounds_toArray, List.set_cons_zero, List.set_cons_succ]
            rfl
          refine pure_ (i := 16) (N := some 32) (v := (.pointer (some ⟨b6, 1, none⟩))) (a' := ?a45) #[true, true, true, true, true, true, true, true, true, true, true, true, true, true, true, true, true, false, false, false, false, false, false, false, false, false, false, false] rfl rfl (by kernel_rfl) (fun _ _ _ h => h) (Or.inl ⟨by rfl, fun w' => fldB1_run (.tmp 6) rfl b6 rfl⟩) ?ha45 ?hh45
          case ha45 =>
            simp only [Act.put, List.setIfInBounds_toArray, List.set_cons_zero, List.set_cons_succ]
            rfl
          refine take_ (i := 17) (N := some 33) (v := (.agg (nums .u8 q.2).toArray)) (a' := ?a46) #[true, true, true, true, true, true, true, true, true, true, true, true, true, true, true, true, true, true, false, false, false, false, false, false, false, false, false, false] rfl rfl (by kernel_rfl) (fun _ _ _ h => h) (Or.inl ⟨by rfl, fun w' s0 => loadD_run (.tmp 32) rfl _ rfl _ HQ.out.1 (boxP_dig s0.2.2.1)⟩) hHeld ?ha46 ?hh46
          case ha46 =>
            simp only [Act.put, List.setIfInBounds_toArray, List.set_cons_zero, List.set_cons_succ]
            rfl
          refine pure_ (i := 18) (N := some 34) (v := (.bool true)) (a' := ?a47) #[true, true, true, true, true, true, true, true, true, true, true, true, true, true, true, true, true, true, true, false, false, false, false, false, false, false, false, false] rfl rfl (by kernel_rfl) (fun _ _ _ h => h) (Or.inl ⟨by rfl, fun w' => eqlD_run _ (.tmp 31) (.tmp 33) rfl _ _ rfl rfl HPD.out HQ.out true (decide_eq_true HDD2.out)⟩) ?ha47 ?hh47
          case ha47 =>
            simp only [Act.put, List.setIfInBounds_toArray, List.set_cons_zero, List.set_cons_succ]
            rfl
          refine pure_ (i := 19) (N := some 35) (v := ?v48) (a' := ?a48) #[true, true, true, true, true, true, true, true, true, true, true, true, true, true, true, true, true, true, true, true, false, false, false, false, false, false, false, false] rfl rfl (by kernel_rfl) (fun _ _ _ h => h) (Or.inl ⟨by rfl, ?hy48⟩) ?ha48 ?hh48
          case hy48 =>
            intro w'
            go_simp
            with_reducible rfl
          case ha48 =>
            simp only [Act.put, List.setIfInBounds_toArray, List.set_cons_zero, List.set_cons_succ]
            rfl
          refine pure_ (i := 20) (N := some 36) (v := ?v49) (a' := ?a49) #[true, true, true, true, true, true, true, true, true, true, true, true, true, true, true, true, true, true, true, true, true, false, false, false, false, false, false, false] rfl rfl (by kernel_rfl) (fun _ _ _ h => h) (Or.inl ⟨by rfl, ?hy49⟩) ?ha49 ?hh49
          case hy49 =>
            intro w'
            go_simp
            with_reducible rfl
          case ha49 =>
            simp only [Act.put, List.setIfInBounds_toArray, List.set_cons_zero, List.set_cons_succ]
            rfl
          refine pure_ (i := 21) (N := some 37) (v := ?v50) (a' := ?a50) #[true, true, true, true, true, true, true, true, true, true, true, true, true, true, true, true, true, true, true, true, true, true, false, false, false, false, false, false] rfl rfl (by kernel_rfl) (fun _ _ _ h => h) (Or.inl ⟨by rfl, ?hy50⟩) ?ha50 ?hh50
          case hy50 =>
            intro w'
            go_simp
            with_reducible rfl
          case ha50 =>
            simp only [Act.put, List.setIfInBounds_toArray, List.set_cons_zero, List.set_cons_succ]
            rfl
          refine pure_ (i := 22) (N := some 38) (v := ?v51) (a' := ?a51) #[true, true, true, true, true, true, true, true, true, true, true, true, true, true, true, true, true, true, true, true, true, true, true, false, false, false, false, false] rfl rfl (by kernel_rfl) (fun _ _ _ h => h) (Or.inl ⟨by rfl, ?hy51⟩) ?ha51 ?hh51
          case hy51 =>
            intro w'
            go_simp
            with_reducible rfl
          case ha51 =>
            simp only [Act.put, List.setIfInBounds_toArray, List.set_cons_zero, List.set_cons_succ]
            rfl
          refine pure_ (i := 23) (N := some 39) (v := (.pointer (some (bd.add (i * 32))))) (a' := ?a52) #[true, true, true, true, true, true, true, true, true, true, true, true, true, true, true, true, true, true, true, true, true, true, true, true, false, false, false, false] rfl rfl (by kernel_rfl) (fun _ _ _ h => h) (Or.inl ⟨by rfl, fun w' => idxD_run (.tmp 37) (.tmp 38) rfl bd ds.length cB i rfl rfl (by have := HLT.out; have := HLN.out; omega)⟩) ?ha52 ?hh52
          case ha52 =>
            simp only [Act.put, List.setIfInBounds_toArray, List.set_cons_zero, List.set_cons_succ]
            rfl
          refine take_ (i := 24) (N := some 40) (v := (.agg (nums .u8 d).toArray)) (a' := ?a53) #[true, true, true, true, true, true, true, true, true, true, true, true, true, true, true, true, true, true, true, true, true, true, true, true, true, false, false, false] rfl rfl (by kernel_rfl) (fun _ _ _ h => h) (Or.inl ⟨by rfl, fun w' s0 => loadD_run (.tmp 39) rfl _ rfl _ (dig_at s0.2.1 HD.out).2 (dig_at s0.2.1 HD.out).1⟩) hHeld ?ha53 ?hh53
          case ha53 =>
            simp only [Act.put, List.setIfInBounds_toArray, List.set_cons_zero, List.set_cons_succ]
            rfl
          refine take_ (i := 25) (N := some 41) (v := (.agg (nums .u8 s).toArray)) (a' := ?a54) #[true, true, true, true, true, true, true, true, true, true, true, true, true, true, true, true, true, true, true, true, true, true, true, true, true, true, false, false] rfl rfl (by kernel_rfl) (fun _ _ _ h => h) (Or.inl ⟨by rfl, fun w' s0 => loadB_run (.tmp 7) rfl b7 rfl _ HS.out.1 s0.2.2.2.1⟩) hHeld ?ha54 ?hh54
          case ha54 =>
            simp only [Act.put, List.setIfInBounds_toArray, List.set_cons_zero, List.set_cons_succ]
            rfl
          refine pure_ (i := 26) (N := some 42) (v := (.bool false)) (a' := ?a55) #[true, true, true, true, true, true, true, true, true, true, true, true, true, true, true, true, true, true, true, true, true, true, true, true, true, true, true, false] rfl rfl (by kernel_rfl) (fun _ _ _ h => h) (Or.inl ⟨by rfl, fun w' => eqlD_run _ (.tmp 40) (.tmp 41) rfl _ _ rfl rfl HDD.out HS.out false (decide_eq_false HSS.out)⟩) ?ha55 ?hh55
          case ha55 =>
            simp only [Act.put, List.setIfInBounds_toArray, List.set_cons_zero, List.set_cons_succ]
            rfl
          refine pure_ (i := 27) (N := some 43) (v := ?v56) (a' := ?a56) #[true, true, true, true, true, true, true, true, true, true, true, true, true, true, true, true, true, true, true, true, true, true, true, true, true, true, true, true] rfl rfl (by kernel_rfl) (fun _ _ _ h => h) (Or.inl ⟨by rfl, ?hy56⟩) ?ha56 ?hh56
          case hy56 =>
            intro w'
            go_simp
            with_reducible rfl
          case ha56 =>
            simp only [Act.put, List.setIfInBounds_toArray, List.set_cons_zero, List.set_cons_succ]
            rfl
          refine done_ (by kernel_rfl) ?_
          have HF := Aside0.mk hHeld
          clear hHeld
          go_wp2
          go_roundg (ps.length - (i + 1))
          case measure => clear hwn hvn; have := HI.out; have := HLT.out; omega
          case rel =>
            refine ⟨i + 1, ⟨by clear hwn hvn; have := HLT.out; omega, by clear hwn hvn; exact Nat.le_refl _⟩, by first | (with_reducible rfl) | (simp [hwn]; done) | go_num, ⟨HF.out.2.2.1⟩, ⟨HF.out.2.2.2.1⟩, ⟨HF.out.2.2.2.2⟩, ⟨?_⟩⟩
            obtain ⟨j, p', hij, hj, hdj, hn, hdd⟩ := HJ.out
            refine ⟨j, p', ?_, hj, hdj, hn, hdd⟩
            rcases Nat.lt_or_ge i j with h | h
            · exact h
            · have e : i = j := by clear hwn hvn; omega
              exfalso
              subst e
              rw [HP.out] at hj; rw [HD.out] at hdj; injection hj with hj; injection hdj with hdj; subst hj
              exact HSS.out hdj
      · have HDD2 := Aside0.mk hD
        have HNN := Aside0.mk hN
        clear hD hN
        refine start_ (n := 28) (S := fun w' => kP.C w' (some ad) ps.length ps ∧ kD.C w' (some bd) ds.length ds ∧ w'.heap[b6]? = some (.cells (.int .i64 q.1 :: nums .u8 q.2).toArray 35 (0, 0)) ∧ w'.heap[b7]? = some (.cells (nums .u8 s).toArray 27 (0, 0)) ∧ Below w.heap.size w w') (ds := []) #[false, false, false, false, false, false, false, false, false, false, false, false, false, false, false, false, false, false, false, false, false, false, false, false, false, false, false, false] (by kernel_rfl) rfl rfl ⟨Kd.C_below HA.out (below_drew HB0.out), Kd.C_below HB.out (below_drew HB0.out), blk_drew B6.out, blk_drew B7.out, below_drew HB0.out⟩ (fun hHeld => ?_)
        refine pure_ (i := 0) (N := some 16) (v := ?v57) (a' := ?a57) #[true, false, false, false, false, false, false, false, false, false, false, false, false, false, false, false, false, false, false, false, false, false, false, false, false, false, false, false] rfl rfl (by kernel_rfl) (fun _ _ _ h => h) (Or.inl ⟨by rfl, ?hy57⟩) ?ha57 ?hh57
        case hy57 =>
          intro w'
          go_simp
          with_reducible rfl
        case ha57 =>
          simp only [Act.put, List.setIfInBounds_toArray, List.set_cons_zero, List.set_cons_succ]
          rfl
        refine pure_ (i := 1) (N := some 17) (v := ?v58) (a' := ?a58) #[true, true, false, false, false, false, false, false, false, false, false, false, false, false, false, false, false, false, false, false, false, false, false, false, false, false, false, false] rfl rfl (by kernel_rfl) (fun _ _ _ h => h) (Or.inl ⟨by rfl, ?hy58⟩) ?ha58 ?hh58
        case hy58 =>
          intro w'
          go_simp
          with_reducible rfl
        case ha58 =>
          simp only [Act.put, List.setIfInBounds_toArray, List.set_cons_zero, List.set_cons_succ]
          rfl
        refine pure_ (i := 2) (N := some 18) (v := (.pointer (some (ad.add (i * 33))))) (a' := ?a59) #[true, true, true, false, false, false, false, false, false, false, false, false, false, false, false, false, false, false, false, false, false, false, false, false, false, false, false, false] rfl rfl (by kernel_rfl) (fun _ _ _ h => h) (Or.inl ⟨by rfl, fun w' => idxP_run (.tmp 16) (.tmp 17) rfl ad ps.length cA i rfl rfl HLT.out⟩) ?ha59 ?hh59
        case ha59 =>
          simp only [Act.put, List.setIfInBounds_toArray, List.set_cons_zero, List.set_cons_succ]
          rfl
        refine pure_ (i := 3) (N := some 19) (v := (.pointer (some (ad.add (i * 33))))) (a' := ?a60) #[true, true, true, true, false, false, false, false, false, false, false, false, false, false, false, false, false, false, false, false, false, false, false, false, false, false, false, false] rfl rfl (by kernel_rfl) (fun _ _ _ h => h) (Or.inl ⟨by rfl, fun w' => fld0_run (.tmp 18) rfl _ rfl⟩) ?ha60 ?hh60
        case ha60 =>
          simp only [Act.put, List.setIfInBounds_toArray, List.set_cons_zero, List.set_cons_succ]
          rfl
        refine take_ (i := 4) (N := some 20) (v := (.int .i64 p.1)) (a' := ?a61) #[true, true, true, true, true, false, false, false, false, false, false, false, false, false, false, false, false, false, false, false, false, false, false, false, false, false, false, false] rfl rfl (by kernel_rfl) (fun _ _ _ h => h) (Or.inl ⟨by rfl, fun w' s0 => loadI_run (.tmp 19) rfl _ rfl _ (pair_at s0.1 HP.out).1⟩) hHeld ?ha61 ?hh61
        case ha61 =>
          simp only [Act.put, List.setIfInBounds_toArray, List.set_cons_zero, List.set_cons_succ]
          rfl
        refine pure_ (i := 6) (N := some 22) (v := (.pointer (some ⟨b6, 0, none⟩))) (a' := ?a62) #[true, true, true, true, true, false, true, false, false, false, false, false, false, false, false, false, false, false, false, false, false, false, false, false, false, false, false, false] rfl rfl (by kernel_rfl) (fun _ _ _ h => h) (Or.inl ⟨by rfl, fun w' => fld0_run (.tmp 6) rfl _ rfl⟩) ?ha62 ?hh62
        case ha62 =>
          simp only [Act.put, List.setIfInBounds_toArray, List.set_cons_zero, List.set_cons_succ]
          rfl
        refine take_ (i := 7) (N := some 23) (v := (.int .i64 q.1)) (a' := ?a63) #[true, true, true, true, true, false, true, true, false, false, false, false, false, false, false, false, false, false, false, false, false, false, false, false, false, false, false, false] rfl rfl (by kernel_rfl) (fun _ _ _ h => h) (Or.inl ⟨by rfl, fun w' s0 => loadI_run (.tmp 22) rfl _ rfl _ (arr_cell s0.2.2.1 0 rfl)⟩) hHeld ?ha63 ?hh63
        case ha63 =>
          simp only [Act.put, List.setIfInBounds_toArray, List.set_cons_zero, List.set_cons_succ]
          rfl
        refine one_ (i := 5) (N := some 21) #[true, true, true, true, true, true, true, true, false, false, false, false, false, false, false, false, false, false, false, false, false, false, false, false, false, false, false, false] rfl rfl (by kernel_rfl) (by decide) (fun K hK => ?_)
        refine goes_ Tryd.func9 (by kernel_rfl) rfl #[.int .i64 p.1] (by rfl) rfl rfl (by simp only [List.map_toArray, List.map_cons, List.map_nil]; rfl) ?_
        refine (name_calls p.1 _).mono ?_
        rintro e wc1 ⟨rfl, lc1⟩
        refine ⟨_, rfl, hK.out _ _ ⟨Kd.C_below hHeld.1 lc1, Kd.C_below hHeld.2.1 lc1, blk_below hHeld.2.2.1 lc1, blk_below hHeld.2.2.2.1 lc1, below_step hHeld.2.2.2.2 lc1⟩ (fun hHeld => ?_)⟩
        clear hK K lc1
        refine norm_ (a' := ?a64) ?ha64 ?hh64
        case ha64 =>
          show Act.put _ (some 21) _ = _
          simp only [Act.put, List.setIfInBounds_toArray, List.set_cons_zero, List.set_cons_succ]
          rfl
        refine one_ (i := 8) (N := some 24) #[true, true, true, true, true, true, true, true, true, false, false, false, false, false, false, false, false, false, false, false, false, false, false, false, false, false, false, false] rfl rfl (by kernel_rfl) (by decide) (fun K hK => ?_)
        refine goes_ Tryd.func9 (by kernel_rfl) rfl #[.int .i64 q.1] (by rfl) rfl rfl (by simp only [List.map_toArray, List.map_cons, List.map_nil]; rfl) ?_
        refine (name_calls q.1 _).mono ?_
        rintro e wc2 ⟨rfl, lc2⟩
        refine ⟨_, rfl, hK.out _ _ ⟨Kd.C_below hHeld.1 lc2, Kd.C_below hHeld.2.1 lc2, blk_below hHeld.2.2.1 lc2, blk_below hHeld.2.2.2.1 lc2, below_step hHeld.2.2.2.2 lc2⟩ (fun hHeld => ?_)⟩
        clear hK K lc2
        refine norm_ (a' := ?a65) ?ha65 ?hh65
        case ha65 =>
          show Act.put _ (some 24) _ = _
          simp only [Act.put, List.setIfInBounds_toArray, List.set_cons_zero, List.set_cons_succ]
          rfl
        refine pure_ (i := 9) (N := some 25) (v := (.bool true)) (a' := ?a66) #[true, true, true, true, true, true, true, true, true, true, false, false, false, false, false, false, false, false, false, false, false, false, false, false, false, false, false, false] rfl rfl (by kernel_rfl) (fun _ _ _ h => h) (Or.inl ⟨by rfl, fun w' => eqlS_run _ _ (.tmp 21) (.tmp 24) rfl rfl _ _ rfl rfl true (decide_eq_true HNN.out)⟩) ?ha66 ?hh66
        case ha66 =>
          simp only [Act.put, List.setIfInBounds_toArray, List.set_cons_zero, List.set_cons_succ]
          rfl
        refine pure_ (i := 10) (N := some 26) (v := ?v67) (a' := ?a67) #[true, true, true, true, true, true, true, true, true, true, true, false, false, false, false, false, false, false, false, false, false, false, false, false, false, false, false, false] rfl rfl (by kernel_rfl) (fun _ _ _ h => h) (Or.inl ⟨by rfl, ?hy67⟩) ?ha67 ?hh67
        case hy67 =>
          intro w'
          go_simp
          with_reducible rfl
        case ha67 =>
          simp only [Act.put, List.setIfInBounds_toArray, List.set_cons_zero, List.set_cons_succ]
          rfl
        refine pure_ (i := 11) (N := some 27) (v := ?v68) (a' := ?a68) #[true, true, true, true, true, true, true, true, true, true, true, true, false, false, false, false, false, false, false, false, false, false, false, false, false, false, false, false] rfl rfl (by kernel_rfl) (fun _ _ _ h => h) (Or.inl ⟨by rfl, ?hy68⟩) ?ha68 ?hh68
        case hy68 =>
          intro w'
          go_simp
          with_reducible rfl
        case ha68 =>
          simp only [Act.put, List.setIfInBounds_toArray, List.set_cons_zero, List.set_cons_succ]
          rfl
        refine pure_ (i := 12) (N := some 28) (v := ?v69) (a' := ?a69) #[true, true, true, true, true, true, true, true, true, true, true, true, true, false, false, false, false, false, false, false, false, false, false, false, false, false, false, false] rfl rfl (by kernel_rfl) (fun _ _ _ h => h) (Or.inl ⟨by rfl, ?hy69⟩) ?ha69 ?hh69
        case hy69 =>
          intro w'
          go_simp
          with_reducible rfl
        case ha69 =>
          simp only [Act.put, List.setIfInBounds_toArray, List.set_cons_zero, List.set_cons_succ]
          rfl
        refine pure_ (i := 13) (N := some 29) (v := (.pointer (some (ad.add (i * 33))))) (a' := ?a70) #[true, true, true, true, true, true, true, true, true, true, true, true, true, true, false, false, false, false, false, false, false, false, false, false, false, false, false, false] rfl rfl (by kernel_rfl) (fun _ _ _ h => h) (Or.inl ⟨by rfl, fun w' => idxP_run (.tmp 27) (.tmp 28) rfl ad ps.length cA i rfl rfl HLT.out⟩) ?ha70 ?hh70
        case ha70 =>
          simp only [Act.put, List.setIfInBounds_toArray, List.set_cons_zero, List.set_cons_succ]
          rfl
        refine pure_ (i := 14) (N := some 30) (v := (.pointer (some (ad.add (i * 33 + 1))))) (a' := ?a71) #[true, true, true, true, true, true, true, true, true, true, true, true, true, true, true, false, false, false, false, false, false, false, false, false, false, false, false, false] rfl rfl (by kernel_rfl) (fun _ _ _ h => h) (Or.inl ⟨by rfl, fun w' => fld1_run (.tmp 29) rfl ad i rfl⟩) ?ha71 ?hh71
        case ha71 =>
          simp only [Act.put, List.setIfInBounds_toArray, List.set_cons_zero, List.set_cons_succ]
          rfl
        refine take_ (i := 15) (N := some 31) (v := (.agg (nums .u8 p.2).toArray)) (a' := ?a72) #[true, true, true, true, true, true, true, true, true, true, true, true, true, true, true, true, false, false, false, false, false, false, false, false, false, false, false, false] rfl rfl (by kernel_rfl) (fun _ _ _ h => h) (Or.inl ⟨by rfl, fun w' s0 => loadD_run (.tmp 30) rfl _ rfl _ (pair_at s0.1 HP.out).2.2 (pair_at s0.1 HP.out).2.1⟩) hHeld ?ha72 ?hh72
        case ha72 =>
          simp only [Act.put, List.setIfInBounds_toArray, List.set_cons_zero, List.set_cons_succ]
          rfl
        refine pure_ (i := 16) (N := some 32) (v := (.pointer (some ⟨b6, 1, none⟩))) (a' := ?a73) #[true, true, true, true, true, true, true, true, true, true, true, true, true, true, true, true, true, false, false, false, false, false, false, false, false, false, false, false] rfl rfl (by kernel_rfl) (fun _ _ _ h => h) (Or.inl ⟨by rfl, fun w' => fldB1_run (.tmp 6) rfl b6 rfl⟩) ?ha73 ?hh73
        case ha73 =>
          simp only [Act.put, List.setIfInBounds_toArray, List.set_cons_zero, List.set_cons_succ]
          rfl
        refine take_ (i := 17) (N := some 33) (v := (.agg (nums .u8 q.2).toArray)) (a' := ?a74) #[true, true, true, true, true, true, true, true, true, true, true, true, true, true, true, true, true, true, false, false, false, false, false, false, false, false, false, false] rfl rfl (by kernel_rfl) (fun _ _ _ h => h) (Or.inl ⟨by rfl, fun w' s0 => loadD_run (.tmp 32) rfl _ rfl _ HQ.out.1 (boxP_dig s0.2.2.1)⟩) hHeld ?ha74 ?hh74
        case ha74 =>
          simp only [Act.put, List.setIfInBounds_toArray, List.set_cons_zero, List.set_cons_succ]
          rfl
        refine pure_ (i := 18) (N := some 34) (v := (.bool false)) (a' := ?a75) #[true, true, true, true, true, true, true, true, true, true, true, true, true, true, true, true, true, true, true, false, false, false, false, false, false, false, false, false] rfl rfl (by kernel_rfl) (fun _ _ _ h => h) (Or.inl ⟨by rfl, fun w' => eqlD_run _ (.tmp 31) (.tmp 33) rfl _ _ rfl rfl HPD.out HQ.out false (decide_eq_false HDD2.out)⟩) ?ha75 ?hh75
        case ha75 =>
          simp only [Act.put, List.setIfInBounds_toArray, List.set_cons_zero, List.set_cons_succ]
          rfl
        refine pure_ (i := 19) (N := some 35) (v := ?v76) (a' := ?a76) #[true, true, true, true, true, true, true, true, true, true, true, true, true, true, true, true, true, true, true, true, false, false, false, false, false, false, false, false] rfl rfl (by kernel_rfl) (fun _ _ _ h => h) (Or.inl ⟨by rfl, ?hy76⟩) ?ha76 ?hh76
        case hy76 =>
          intro w'
          go_simp
          with_reducible rfl
        case ha76 =>
          simp only [Act.put, List.setIfInBounds_toArray, List.set_cons_zero, List.set_cons_succ]
          rfl
        refine pure_ (i := 20) (N := some 36) (v := ?v77) (a' := ?a77) #[true, true, true, true, true, true, true, true, true, true, true, true, true, true, true, true, true, true, true, true, true, false, false, false, false, false, false, false] rfl rfl (by kernel_rfl) (fun _ _ _ h => h) (Or.inl ⟨by rfl, ?hy77⟩) ?ha77 ?hh77
        case hy77 =>
          intro w'
          go_simp
          with_reducible rfl
        case ha77 =>
          simp only [Act.put, List.setIfInBounds_toArray, List.set_cons_zero, List.set_cons_succ]
          rfl
        refine pure_ (i := 21) (N := some 37) (v := undef) (a' := ?a78) #[true, true, true, true, true, true, true, true, true, true, true, true, true, true, true, true, true, true, true, true, true, true, false, false, false, false, false, false] rfl rfl (by kernel_rfl) (fun _ _ _ h => h) (Or.inr ⟨by rfl, rfl⟩) ?ha78 ?hh78
        case ha78 =>
          simp only [Act.put, List.setIfInBounds_toArray, List.set_cons_zero, List.set_cons_succ]
          rfl
        refine pure_ (i := 22) (N := some 38) (v := undef) (a' := ?a79) #[true, true, true, true, true, true, true, true, true, true, true, true, true, true, true, true, true, true, true, true, true, true, true, false, false, false, false, false] rfl rfl (by kernel_rfl) (fun _ _ _ h => h) (Or.inr ⟨by rfl, rfl⟩) ?ha79 ?hh79
        case ha79 =>
          simp only [Act.put, List.setIfInBounds_toArray, List.set_cons_zero, List.set_cons_succ]
          rfl
        refine pure_ (i := 23) (N := some 39) (v := undef) (a' := ?a80) #[true, true, true, true, true, true, true, true, true, true, true, true, true, true, true, true, true, true, true, true, true, true, true, true, false, false, false, false] rfl rfl (by kernel_rfl) (fun _ _ _ h => h) (Or.inr ⟨by rfl, rfl⟩) ?ha80 ?hh80
        case ha80 =>
          simp only [Act.put, List.setIfInBounds_toArray, List.set_cons_zero, List.set_cons_succ]
          rfl
        refine pure_ (i := 24) (N := some 40) (v := undef) (a' := ?a81) #[true, true, true, true, true, true, true, true, true, true, true, true, true, true, true, true, true, true, true, true, true, true, true, true, true, false, false, false] rfl rfl (by kernel_rfl) (fun _ _ _ h => h) (Or.inr ⟨by rfl, rfl⟩) ?ha81 ?hh81
        case ha81 =>
          simp only [Act.put, List.setIfInBounds_toArray, List.set_cons_zero, List.set_cons_succ]
          rfl
        refine pure_ (i := 25) (N := some 41) (v := undef) (a' := ?a82) #[true, true, true, true, true, true, true, true, true, true, true, true, true, true, true, true, true, true, true, true, true, true, true, true, true, true, false, false] rfl rfl (by kernel_rfl) (fun _ _ _ h => h) (Or.inr ⟨by rfl, rfl⟩) ?ha82 ?hh82
        case ha82 =>
          simp only [Act.put, List.setIfInBounds_toArray, List.set_cons_zero, List.set_cons_succ]
          rfl
        refine pure_ (i := 26) (N := some 42) (v := undef) (a' := ?a83) #[true, true, true, true, true, true, true, true, true, true, true, true, true, true, true, true, true, true, true, true, true, true, true, true, true, true, true, false] rfl rfl (by kernel_rfl) (fun _ _ _ h => h) (Or.inr ⟨by rfl, rfl⟩) ?ha83 ?hh83
        case ha83 =>
          simp only [Act.put, List.setIfInBounds_toArray, List.set_cons_zero, List.set_cons_succ]
          rfl
        refine pure_ (i := 27) (N := some 43) (v := ?v84) (a' := ?a84) #[true, true, true, true, true, true, true, true, true, true, true, true, true, true, true, true, true, true, true, true, true, true, true, true, true, true, true, true] rfl rfl (by kernel_rfl) (fun _ _ _ h => h) (Or.inl ⟨by rfl, ?hy84⟩) ?ha84 ?hh84
        case hy84 =>
          intro w'
          go_simp
          with_reducible rfl
        case ha84 =>
          simp only [Act.put, List.setIfInBounds_toArray, List.set_cons_zero, List.set_cons_succ]
          rfl
        refine done_ (by kernel_rfl) ?_
        have HF := Aside0.mk hHeld
        clear hHeld
        go_wp2
        go_roundg (ps.length - (i + 1))
        case measure => clear hwn hvn; have := HI.out; have := HLT.out; omega
        case rel =>
          refine ⟨i + 1, ⟨by clear hwn hvn; have := HLT.out; omega, by clear hwn hvn; exact Nat.le_refl _⟩, by first | (with_reducible rfl) | (simp [hwn]; done) | go_num, ⟨HF.out.2.2.1⟩, ⟨HF.out.2.2.2.1⟩, ⟨HF.out.2.2.2.2⟩, ⟨?_⟩⟩
          obtain ⟨j, p', hij, hj, hdj, hn, hdd⟩ := HJ.out
          refine ⟨j, p', ?_, hj, hdj, hn, hdd⟩
          rcases Nat.lt_or_ge i j with h | h
          · exact h
          · have e : i = j := by clear hwn hvn; omega
            exfalso
            subst e
            rw [HP.out] at hj; rw [HD.out] at hdj; injection hj with hj; injection hdj with hdj; subst hj
            exact HDD2.out hdd
    · have HNN := Aside0.mk hN
      clear hN
      refine start_ (n := 28) (S := fun w' => kP.C w' (some ad) ps.length ps ∧ kD.C w' (some bd) ds.length ds ∧ w'.heap[b6]? = some (.cells (.int .i64 q.1 :: nums .u8 q.2).toArray 35 (0, 0)) ∧ w'.heap[b7]? = some (.cells (nums .u8 s).toArray 27 (0, 0)) ∧ Below w.heap.size w w') (ds := []) #[false, false, false, false, false, false, false, false, false, false, false, false, false, false, false, false, false, false, false, false, false, false, false, false, false, false, false, false] (by kernel_rfl) rfl rfl ⟨Kd.C_below HA.out (below_drew HB0.out), Kd.C_below HB.out (below_drew HB0.out), blk_drew B6.out, blk_drew B7.out, below_drew HB0.out⟩ (fun hHeld => ?_)
      refine pure_ (i := 0) (N := some 16) (v := ?v85) (a' := ?a85) #[true, false, false, false, false, false, false, false, false, false, false, false, false, false, false, false, false, false, false, false, false, false, false, false, false, false, false, false] rfl rfl (by kernel_rfl) (fun _ _ _ h => h) (Or.inl ⟨by rfl, ?hy85⟩) ?ha85 ?hh85
      case hy85 =>
        intro w'
        go_simp
        with_reducible rfl
      case ha85 =>
        simp only [Act.put, List.setIfInBounds_toArray, List.set_cons_zero, List.set_cons_succ]
        rfl
      refine pure_ (i := 1) (N := some 17) (v := ?v86) (a' := ?a86) #[true, true, false, false, false, false, false, false, false, false, false, false, false, false, false, false, false, false, false, false, false, false, false, false, false, false, false, false] rfl rfl (by kernel_rfl) (fun _ _ _ h => h) (Or.inl ⟨by rfl, ?hy86⟩) ?ha86 ?hh86
      case hy86 =>
        intro w'
        go_simp
        with_reducible rfl
      case ha86 =>
        simp only [Act.put, List.setIfInBounds_toArray, List.set_cons_zero, List.set_cons_succ]
        rfl
      refine pure_ (i := 2) (N := some 18) (v := (.pointer (some (ad.add (i * 33))))) (a' := ?a87) #[true, true, true, false, false, false, false, false, false, false, false, false, false, false, false, false, false, false, false, false, false, false, false, false, false, false, false, false] rfl rfl (by kernel_rfl) (fun _ _ _ h => h) (Or.inl ⟨by rfl, fun w' => idxP_run (.tmp 16) (.tmp 17) rfl ad ps.length cA i rfl rfl HLT.out⟩) ?ha87 ?hh87
      case ha87 =>
        simp only [Act.put, List.setIfInBounds_toArray, List.set_cons_zero, List.set_cons_succ]
        rfl
      refine pure_ (i := 3) (N := some 19) (v := (.pointer (some (ad.add (i * 33))))) (a' := ?a88) #[true, true, true, true, false, false, false, false, false, false, false, false, false, false, false, false, false, false, false, false, false, false, false, false, false, false, false, false] rfl rfl (by kernel_rfl) (fun _ _ _ h => h) (Or.inl ⟨by rfl, fun w' => fld0_run (.tmp 18) rfl _ rfl⟩) ?ha88 ?hh88
      case ha88 =>
        simp only [Act.put, List.setIfInBounds_toArray, List.set_cons_zero, List.set_cons_succ]
        rfl
      refine take_ (i := 4) (N := some 20) (v := (.int .i64 p.1)) (a' := ?a89) #[true, true, true, true, true, false, false, false, false, false, false, false, false, false, false, false, false, false, false, false, false, false, false, false, false, false, false, false] rfl rfl (by kernel_rfl) (fun _ _ _ h => h) (Or.inl ⟨by rfl, fun w' s0 => loadI_run (.tmp 19) rfl _ rfl _ (pair_at s0.1 HP.out).1⟩) hHeld ?ha89 ?hh89
      case ha89 =>
        simp only [Act.put, List.setIfInBounds_toArray, List.set_cons_zero, List.set_cons_succ]
        rfl
      refine pure_ (i := 6) (N := some 22) (v := (.pointer (some ⟨b6, 0, none⟩))) (a' := ?a90) #[true, true, true, true, true, false, true, false, false, false, false, false, false, false, false, false, false, false, false, false, false, false, false, false, false, false, false, false] rfl rfl (by kernel_rfl) (fun _ _ _ h => h) (Or.inl ⟨by rfl, fun w' => fld0_run (.tmp 6) rfl _ rfl⟩) ?ha90 ?hh90
      case ha90 =>
        simp only [Act.put, List.setIfInBounds_toArray, List.set_cons_zero, List.set_cons_succ]
        rfl
      refine take_ (i := 7) (N := some 23) (v := (.int .i64 q.1)) (a' := ?a91) #[true, true, true, true, true, false, true, true, false, false, false, false, false, false, false, false, false, false, false, false, false, false, false, false, false, false, false, false] rfl rfl (by kernel_rfl) (fun _ _ _ h => h) (Or.inl ⟨by rfl, fun w' s0 => loadI_run (.tmp 22) rfl _ rfl _ (arr_cell s0.2.2.1 0 rfl)⟩) hHeld ?ha91 ?hh91
      case ha91 =>
        simp only [Act.put, List.setIfInBounds_toArray, List.set_cons_zero, List.set_cons_succ]
        rfl
      refine one_ (i := 5) (N := some 21) #[true, true, true, true, true, true, true, true, false, false, false, false, false, false, false, false, false, false, false, false, false, false, false, false, false, false, false, false] rfl rfl (by kernel_rfl) (by decide) (fun K hK => ?_)
      refine goes_ Tryd.func9 (by kernel_rfl) rfl #[.int .i64 p.1] (by rfl) rfl rfl (by simp only [List.map_toArray, List.map_cons, List.map_nil]; rfl) ?_
      refine (name_calls p.1 _).mono ?_
      rintro e wc1 ⟨rfl, lc1⟩
      refine ⟨_, rfl, hK.out _ _ ⟨Kd.C_below hHeld.1 lc1, Kd.C_below hHeld.2.1 lc1, blk_below hHeld.2.2.1 lc1, blk_below hHeld.2.2.2.1 lc1, below_step hHeld.2.2.2.2 lc1⟩ (fun hHeld => ?_)⟩
      clear hK K lc1
      refine norm_ (a' := ?a92) ?ha92 ?hh92
      case ha92 =>
        show Act.put _ (some 21) _ = _
        simp only [Act.put, List.setIfInBounds_toArray, List.set_cons_zero, List.set_cons_succ]
        rfl
      refine one_ (i := 8) (N := some 24) #[true, true, true, true, true, true, true, true, true, false, false, false, false, false, false, false, false, false, false, false, false, false, false, false, false, false, false, false] rfl rfl (by kernel_rfl) (by decide) (fun K hK => ?_)
      refine goes_ Tryd.func9 (by kernel_rfl) rfl #[.int .i64 q.1] (by rfl) rfl rfl (by simp only [List.map_toArray, List.map_cons, List.map_nil]; rfl) ?_
      refine (name_calls q.1 _).mono ?_
      rintro e wc2 ⟨rfl, lc2⟩
      refine ⟨_, rfl, hK.out _ _ ⟨Kd.C_below hHeld.1 lc2, Kd.C_below hHeld.2.1 lc2, blk_below hHeld.2.2.1 lc2, blk_below hHeld.2.2.2.1 lc2, below_step hHeld.2.2.2.2 lc2⟩ (fun hHeld => ?_)⟩
      clear hK K lc2
      refine norm_ (a' := ?a93) ?ha93 ?hh93
      case ha93 =>
        show Act.put _ (some 24) _ = _
        simp only [Act.put, List.setIfInBounds_toArray, List.set_cons_zero, List.set_cons_succ]
        rfl
      refine pure_ (i := 9) (N := some 25) (v := (.bool false)) (a' := ?a94) #[true, true, true, true, true, true, true, true, true, true, false, false, false, false, false, false, false, false, false, false, false, false, false, false, false, false, false, false] rfl rfl (by kernel_rfl) (fun _ _ _ h => h) (Or.inl ⟨by rfl, fun w' => eqlS_run _ _ (.tmp 21) (.tmp 24) rfl rfl _ _ rfl rfl false (decide_eq_false HNN.out)⟩) ?ha94 ?hh94
      case ha94 =>
        simp only [Act.put, List.setIfInBounds_toArray, List.set_cons_zero, List.set_cons_succ]
        rfl
      refine pure_ (i := 10) (N := some 26) (v := ?v95) (a' := ?a95) #[true, true, true, true, true, true, true, true, true, true, true, false, false, false, false, false, false, false, false, false, false, false, false, false, false, false, false, false] rfl rfl (by kernel_rfl) (fun _ _ _ h => h) (Or.inl ⟨by rfl, ?hy95⟩) ?ha95 ?hh95
      case hy95 =>
        intro w'
        go_simp
        with_reducible rfl
      case ha95 =>
        simp only [Act.put, List.setIfInBounds_toArray, List.set_cons_zero, List.set_cons_succ]
        rfl
      refine pure_ (i := 11) (N := some 27) (v := undef) (a' := ?a96) #[true, true, true, true, true, true, true, true, true, true, true, true, false, false, false, false, false, false, false, false, false, false, false, false, false, false, false, false] rfl rfl (by kernel_rfl) (fun _ _ _ h => h) (Or.inr ⟨by rfl, rfl⟩) ?ha96 ?hh96
      case ha96 =>
        simp only [Act.put, List.setIfInBounds_toArray, List.set_cons_zero, List.set_cons_succ]
        rfl
      refine pure_ (i := 12) (N := some 28) (v := undef) (a' := ?a97) #[true, true, true, true, true, true, true, true, true, true, true, true, true, false, false, false, false, false, false, false, false, false, false, false, false, false, false, false] rfl rfl (by kernel_rfl) (fun _ _ _ h => h) (Or.inr ⟨by rfl, rfl⟩) ?ha97 ?hh97
      case ha97 =>
        simp only [Act.put, List.setIfInBounds_toArray, List.set_cons_zero, List.set_cons_succ]
        rfl
      refine pure_ (i := 13) (N := some 29) (v := undef) (a' := ?a98) #[true, true, true, true, true, true, true, true, true, true, true, true, true, true, false, false, false, false, false, false, false, false, false, false, false, false, false, false] rfl rfl (by kernel_rfl) (fun _ _ _ h => h) (Or.inr ⟨by rfl, rfl⟩) ?ha98 ?hh98
      case ha98 =>
        simp only [Act.put, List.setIfInBounds_toArray, List.set_cons_zero, List.set_cons_succ]
        rfl
      refine pure_ (i := 14) (N := some 30) (v := undef) (a' := ?a99) #[true, true, true, true, true, true, true, true, true, true, true, true, true, true, true, false, false, false, false, false, false, false, false, false, false, false, false, false] rfl rfl (by kernel_rfl) (fun _ _ _ h => h) (Or.inr ⟨by rfl, rfl⟩) ?ha99 ?hh99
      case ha99 =>
        simp only [Act.put, List.setIfInBounds_toArray, List.set_cons_zero, List.set_cons_succ]
        rfl
      refine pure_ (i := 15) (N := some 31) (v := undef) (a' := ?a100) #[true, true, true, true, true, true, true, true, true, true, true, true, true, true, true, true, false, false, false, false, false, false, false, false, false, false, false, false] rfl rfl (by kernel_rfl) (fun _ _ _ h => h) (Or.inr ⟨by rfl, rfl⟩) ?ha100 ?hh100
      case ha100 =>
        simp only [Act.put, List.setIfInBounds_toArray, List.set_cons_zero, List.set_cons_succ]
        rfl
      refine pure_ (i := 16) (N := some 32) (v := undef) (a' := ?a101) #[true, true, true, true, true, true, true, true, true, true, true, true, true, true, true, true, true, false, false, false, false, false, false, false, false, false, false, false] rfl rfl (by kernel_rfl) (fun _ _ _ h => h) (Or.inr ⟨by rfl, rfl⟩) ?ha101 ?hh101
      case ha101 =>
        simp only [Act.put, List.setIfInBounds_toArray, List.set_cons_zero, List.set_cons_succ]
        rfl
      refine pure_ (i := 17) (N := some 33) (v := undef) (a' := ?a102) #[true, true, true, true, true, true, true, true, true, true, true, true, true, true, true, true, true, true, false, false, false, false, false, false, false, false, false, false] rfl rfl (by kernel_rfl) (fun _ _ _ h => h) (Or.inr ⟨by rfl, rfl⟩) ?ha102 ?hh102
      case ha102 =>
        simp only [Act.put, List.setIfInBounds_toArray, List.set_cons_zero, List.set_cons_succ]
        rfl
      refine pure_ (i := 18) (N := some 34) (v := undef) (a' := ?a103) #[true, true, true, true, true, true, true, true, true, true, true, true, true, true, true, true, true, true, true, false, false, false, false, false, false, false, false, false] rfl rfl (by kernel_rfl) (fun _ _ _ h => h) (Or.inr ⟨by rfl, rfl⟩) ?ha103 ?hh103
      case ha103 =>
        simp only [Act.put, List.setIfInBounds_toArray, List.set_cons_zero, List.set_cons_succ]
        rfl
      refine pure_ (i := 19) (N := some 35) (v := ?v104) (a' := ?a104) #[true, true, true, true, true, true, true, true, true, true, true, true, true, true, true, true, true, true, true, true, false, false, false, false, false, false, false, false] rfl rfl (by kernel_rfl) (fun _ _ _ h => h) (Or.inl ⟨by rfl, ?hy104⟩) ?ha104 ?hh104
      case hy104 =>
        intro w'
        go_simp
        with_reducible rfl
      case ha104 =>
        simp only [Act.put, List.setIfInBounds_toArray, List.set_cons_zero, List.set_cons_succ]
        rfl
      refine pure_ (i := 20) (N := some 36) (v := ?v105) (a' := ?a105) #[true, true, true, true, true, true, true, true, true, true, true, true, true, true, true, true, true, true, true, true, true, false, false, false, false, false, false, false] rfl rfl (by kernel_rfl) (fun _ _ _ h => h) (Or.inl ⟨by rfl, ?hy105⟩) ?ha105 ?hh105
      case hy105 =>
        intro w'
        go_simp
        with_reducible rfl
      case ha105 =>
        simp only [Act.put, List.setIfInBounds_toArray, List.set_cons_zero, List.set_cons_succ]
        rfl
      refine pure_ (i := 21) (N := some 37) (v := undef) (a' := ?a106) #[true, true, true, true, true, true, true, true, true, true, true, true, true, true, true, true, true, true, true, true, true, true, false, false, false, false, false, false] rfl rfl (by kernel_rfl) (fun _ _ _ h => h) (Or.inr ⟨by rfl, rfl⟩) ?ha106 ?hh106
      case ha106 =>
        simp only [Act.put, List.setIfInBounds_toArray, List.set_cons_zero, List.set_cons_succ]
        rfl
      refine pure_ (i := 22) (N := some 38) (v := undef) (a' := ?a107) #[true, true, true, true, true, true, true, true, true, true, true, true, true, true, true, true, true, true, true, true, true, true, true, false, false, false, false, false] rfl rfl (by kernel_rfl) (fun _ _ _ h => h) (Or.inr ⟨by rfl, rfl⟩) ?ha107 ?hh107
      case ha107 =>
        simp only [Act.put, List.setIfInBounds_toArray, List.set_cons_zero, List.set_cons_succ]
        rfl
      refine pure_ (i := 23) (N := some 39) (v := undef) (a' := ?a108) #[true, true, true, true, true, true, true, true, true, true, true, true, true, true, true, true, true, true, true, true, true, true, true, true, false, false, false, false] rfl rfl (by kernel_rfl) (fun _ _ _ h => h) (Or.inr ⟨by rfl, rfl⟩) ?ha108 ?hh108
      case ha108 =>
        simp only [Act.put, List.setIfInBounds_toArray, List.set_cons_zero, List.set_cons_succ]
        rfl
      refine pure_ (i := 24) (N := some 40) (v := undef) (a' := ?a109) #[true, true, true, true, true, true, true, true, true, true, true, true, true, true, true, true, true, true, true, true, true, true, true, true, true, false, false, false] rfl rfl (by kernel_rfl) (fun _ _ _ h => h) (Or.inr ⟨by rfl, rfl⟩) ?ha109 ?hh109
      case ha109 =>
        simp only [Act.put, List.setIfInBounds_toArray, List.set_cons_zero, List.set_cons_succ]
        rfl
      refine pure_ (i := 25) (N := some 41) (v := undef) (a' := ?a110) #[true, true, true, true, true, true, true, true, true, true, true, true, true, true, true, true, true, true, true, true, true, true, true, true, true, true, false, false] rfl rfl (by kernel_rfl) (fun _ _ _ h => h) (Or.inr ⟨by rfl, rfl⟩) ?ha110 ?hh110
      case ha110 =>
        simp only [Act.put, List.setIfInBounds_toArray, List.set_cons_zero, List.set_cons_succ]
        rfl
      refine pure_ (i := 26) (N := some 42) (v := undef) (a' := ?a111) #[true, true, true, true, true, true, true, true, true, true, true, true, true, true, true, true, true, true, true, true, true, true, true, true, true, true, true, false] rfl rfl (by kernel_rfl) (fun _ _ _ h => h) (Or.inr ⟨by rfl, rfl⟩) ?ha111 ?hh111
      case ha111 =>
        simp only [Act.put, List.setIfInBounds_toArray, List.set_cons_zero, List.set_cons_succ]
        rfl
      refine pure_ (i := 27) (N := some 43) (v := ?v112) (a' := ?a112) #[true, true, true, true, true, true, true, true, true, true, true, true, true, true, true, true, true, true, true, true, true, true, true, true, true, true, true, true] rfl rfl (by kernel_rfl) (fun _ _ _ h => h) (Or.inl ⟨by rfl, ?hy112⟩) ?ha112 ?hh112
      case hy112 =>
        intro w'
        go_simp
        with_reducible rfl
      case ha112 =>
        simp only [Act.put, List.setIfInBounds_toArray, List.set_cons_zero, List.set_cons_succ]
        rfl
      refine done_ (by kernel_rfl) ?_
      have HF := Aside0.mk hHeld
      clear hHeld
      go_wp2
      go_roundg (ps.length - (i + 1))
      case measure => clear hwn hvn; have := HI.out; have := HLT.out; omega
      case rel =>
        refine ⟨i + 1, ⟨by clear hwn hvn; have := HLT.out; omega, by clear hwn hvn; exact Nat.le_refl _⟩, by first | (with_reducible rfl) | (simp [hwn]; done) | go_num, ⟨HF.out.2.2.1⟩, ⟨HF.out.2.2.2.1⟩, ⟨HF.out.2.2.2.2⟩, ⟨?_⟩⟩
        obtain ⟨j, p', hij, hj, hdj, hn, hdd⟩ := HJ.out
        refine ⟨j, p', ?_, hj, hdj, hn, hdd⟩
        rcases Nat.lt_or_ge i j with h | h
        · exact h
        · have e : i = j := by clear hwn hvn; omega
          exfalso
          subst e
          rw [HP.out] at hj; rw [HD.out] at hdj; injection hj with hj; injection hdj with hdj; subst hj
          exact HNN.out hn
end Go.Proofs.YtoigoiefnapokaaDoor.T
