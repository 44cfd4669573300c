/- The walk of hearsaylaw18.KeysIdeal. -/
import Derived.Test.YtoigoiefnapokaaDoorGKJoin
import Derived.Test.YtoigoiefnapokaaDoorGKXor
import Derived.Test.YtoigoiefnapokaaDoorGKTail
set_option linter.unusedVariables false
set_option linter.unusedSimpArgs false
namespace Go.Proofs.YtoigoiefnapokaaDoor.T
open Go.RowKit Go.Maps Go.MuLone Go.Proofs.YtoigoiefnapokaaDoorW.PrintWords Go.Proofs.YtoigoiefnapokaaDoorW.PrintLast
set_option maxHeartbeats 32000000 in
set_option maxRecDepth 100000 in
theorem ideal_calls (w : World) (A A1 A2 : Option Addr) (cA c1 c2 : Nat) (sec : List Int) (sg ak : List Pr) (at_ bits : Int) (hA : ReadsInt w .u8 A sec.length sec) (hcA : sec.length ≤ cA) (hnA : sec.length ≤ 140737488355328)
    (h1 : kP.C w A1 sg.length sg) (h2 : kP.C w A2 ak.length ak) (hs : ∀ p ∈ sg, IsD p.2) (ha : ∀ p ∈ ak, IsD p.2) (hn1 : sg.length ≤ 1099511627776) (hn2 : ak.length ≤ 1099511627776) (hbits : 0 ≤ bits ∧ bits < 256) (hat : -9223372036854775808 ≤ at_ ∧ at_ ≤ 9223372036854775807) (hF : LaidF w) (hL : LaidR w) :
    Calls Tryd.prog 3 #[.slice A sec.length cA, .slice A1 sg.length c1, .slice A2 ak.length c2, .int .i64 at_, .int .u8 bits] w fun e w' => e = .returned (.bool true) ∧ Below w.heap.size w w' := by
  have HA := Aside0.mk hA
  have HCA := Aside0.mk hcA
  have HNA := Aside0.mk hnA
  have H1 := Aside0.mk h1
  have H2 := Aside0.mk h2
  have HS1 := Aside0.mk hs
  have HS2 := Aside0.mk ha
  have HN1 := Aside0.mk hn1
  have HN2 := Aside0.mk hn2
  have HBI := Aside0.mk hbits
  have HAT := Aside0.mk hat
  have HF := Aside0.mk hF
  have HL := Aside0.mk hL
  obtain ⟨d0, hd0⟩ : ∃ d, nineD = d := ⟨_, rfl⟩
  have hni := nineD_is
  rw [hd0] at hni
  have HD0e := Aside0.mk hd0
  have HD0 := Aside0.mk hni
  obtain ⟨k0, hk0⟩ : ∃ k, macf sec (bytesOf (nm 0)) = k := ⟨_, rfl⟩
  have HK0 := Aside0.mk hk0
  have HKI := Aside0.mk (show IsD k0 by rw [← hk0]; exact mac_is _ _)
  obtain ⟨wk, hwk⟩ : ∃ k, macf k0 d0 = k := ⟨_, rfl⟩
  have HWK := Aside0.mk hwk
  have HWI := Aside0.mk (show IsD wk by rw [← hwk]; exact mac_is _ _)
  have HSE := Aside0.mk (show sealf sec (0, d0) = wk by unfold sealf; dsimp only; rw [hk0, hwk])
  have HDk := Aside0.mk (digest_facts HKI.out.1)
  have HDd := Aside0.mk (digest_facts HD0.out.1)
  have HDw := Aside0.mk (digest_facts HWI.out.1)
  have HDN := Aside0.mk (digest_facts zeroD_is.1)
  clear hA hcA hnA h1 h2 hs ha hn1 hn2 hbits hat hF hL hd0 hni hk0 hwk
  have kb := fun W => print_bytes (P := Tryd.prog) 9 22 5 Tryd.underlying9 Tryd.underlying22 Tryd.underlying5 (nm 0) W
  go_enter Tryd.func3, Tryd.ntmps3
  go_wp2_with (first
    | (go_at_call 7; go_loud ((with_reducible refine (enrolled_calls w A cA sec HA.out HNA.out HF.out HL.out).mono ?_); rintro e w1 ⟨x, rfl, hx, hs, hk, hns, hds, hb1⟩; have K1 := Aside0.mk (show Keys x w w1 sec [] from ⟨hx, hk, by rw [hds, sf_nil]; exact says_nil, by rw [hns]; rfl, hs, hb1⟩); have HU := Aside0.mk hx.under; have HNW := Aside0.mk (show w.heap.size ≤ w1.heap.size from hb1.size); clear hx hs hk hns hds hb1))
    | (go_at_call 9; go_loud ((with_reducible refine (name_calls 0 _).mono ?_); rintro e w2 ⟨rfl, l2⟩; have K2 := Aside0.mk (K1.out.low l2); have HS2' := Aside0.mk (show w1.heap.size ≤ w2.heap.size from l2.size); clear l2))
    | (go_at_call 8; go_loud (refine (mac_callsN (Lib.bytesWorld w2 5 (nm 0)) A (some ⟨w2.heap.size, 0, none⟩) cA _ sec.length (nm 0).size sec (bytesOf (nm 0)) (HF.out.up (bytes_below K2.out.below K2.out.below.size _ _)) (HL.out.up (bytes_below K2.out.below K2.out.below.size _ _)) (HA.out.below (bytes_below K2.out.below K2.out.below.size _ _)) HCA.out (by have := HNA.out; omega) (by rw [bytesOf_length]; exact bytes_reads w2 _ _ (by have := (nm_ok 0).2; omega)) (by rw [bytesOf_length]; exact grownCap_ge _ _ _ _) (by rw [bytesOf_length]; have := (nm_ok 0).2; omega) rfl (bytesOf_length _)).mono ?_; rintro e w3 ⟨rfl, l3⟩; rw [HK0.out]; have LB2 := bytes_below (Below.refl w2.heap.size w2) (Nat.le_refl _) 5 (nm 0); have K3 := Aside0.mk ((K2.out.low LB2).low l3); have HS3 := Aside0.mk (show w1.heap.size ≤ w3.heap.size by have := HS2'.out; have := LB2.size; have := l3.size; omega); clear l3 LB2))
    | ((with_reducible refine gate_dst (N := 12) rfl ?_); refine box_event ?hg (N := 12) ?hd (cs := (nums .u8 zeroD).toArray) (t := 27) ?hr ?_; (case hd => rfl); (case hg => rfl); (case hr => first | (go_simp; done) | (go_simp; rfl)); intro b12 hb12 w4 hbox hbl; have B12 := Aside0.mk hbox; have K4 := Aside0.mk (K3.out.low hbl); have G12 := Aside0.mk (show w1.heap.size ≤ b12 by have := HS3.out; omega); clear hb12 hbox hbl)
    | (refine put_row rfl 27 (.tmp 12) (.tmp 37) rfl b12 (nums .u8 k0).toArray rfl rfl 27 _ B12.out HDk.out.1 (by rw [HDk.out.2.1]; rfl) HDk.out.2.2 ?_; have B125 := Aside0.mk (setRow_heap _ b12 _ (nums .u8 k0).toArray _ _ B12.out); have K5 := Aside0.mk (K4.out.row HU.out G12.out (by have := G12.out; have := HNW.out; omega) (nums .u8 k0).toArray))
    | ((with_reducible refine gate_dst (N := 38) rfl ?_); go_loud (refine Kd.event_run rfl (nine_run HD0e.out rfl) ?_))
    | ((with_reducible refine gate_dst (N := 13) rfl ?_); refine box_event ?hg (N := 13) ?hd (cs := (nums .u8 zeroD).toArray) (t := 27) ?hr ?_; (case hd => rfl); (case hg => rfl); (case hr => first | (go_simp; done) | (go_simp; rfl)); intro b13 hb13 w6 hbox hbl; have B13 := Aside0.mk hbox; have K6 := Aside0.mk (K5.out.low hbl); have B126 := Aside0.mk (blk_below B125.out hbl); have N13 := Aside0.mk (show b12 < b13 by have := blk_lt B125.out; omega); have G13 := Aside0.mk (show w1.heap.size ≤ b13 by have := G12.out; have := N13.out; omega); clear hb13 hbox hbl)
    | (refine put_row rfl 27 (.tmp 13) (.tmp 38) rfl b13 (nums .u8 d0).toArray rfl rfl 27 _ B13.out HDd.out.1 (by rw [HDd.out.2.1]; rfl) HDd.out.2.2 ?_; go_loud (have B137 := Aside0.mk (setRow_heap _ b13 _ (nums .u8 d0).toArray _ _ B13.out); have B127 := Aside0.mk (blk_row (b := b13) B126.out (by have := N13.out; omega) (nums .u8 d0).toArray); have K7 := Aside0.mk (K6.out.row HU.out G13.out (by have := G13.out; have := HNW.out; omega) (nums .u8 d0).toArray))))
  generalize w6.setRow b13 (nums .u8 d0).toArray = w7 at B137 B127 K7 ⊢
  clear kb K1 K2 K3 K4 K5 K6 B12 B125 B13 B126 HS2' HS3
  skip
  refine start_ (n := 5) (S := fun _ => True) (ds := []) #[false, false, false, false, false] (by kernel_rfl) rfl rfl trivial (fun hHeld => ?_)
  refine pure_ (i := 0) (N := some 39) (v := ?v1) (a' := ?a1) #[true, false, false, false, false] rfl rfl (by kernel_rfl) (fun _ _ _ h => h) (Or.inl ⟨by rfl, ?hy1⟩) ?ha1 ?hh1
  case hy1 =>
    intro w'
    go_simp
    with_reducible rfl
  case ha1 =>
    simp only [Act.put, List.setIfInBounds_toArray, List.set_cons_zero, List.set_cons_succ]
    rfl
  refine pure_ (i := 1) (N := some 40) (v := ?v2) (a' := ?a2) #[true, true, false, false, false] rfl rfl (by kernel_rfl) (fun _ _ _ h => h) (Or.inl ⟨by rfl, ?hy2⟩) ?ha2 ?hh2
  case hy2 =>
    intro w'
    go_simp
    with_reducible rfl
  case ha2 =>
    simp only [Act.put, List.setIfInBounds_toArray, List.set_cons_zero, List.set_cons_succ]
    rfl
  have keys_r6 := Aside0.mk (K7.out.drew)
  have b12_r6 := Aside0.mk (blk_drew B127.out)
  have b13_r6 := Aside0.mk (blk_drew B137.out)
  generalize w7.drew = w8 at keys_r6 b12_r6 b13_r6 hHeld ⊢
  refine join_ 1 #[true, true, true, true, false] (fun b14 : Nat => [(41, .agg (nums .u8 wk).toArray), (14, .pointer (some ⟨b14, 0, none⟩))]) (fun b14 w' => Keys x w w' sec [] ∧ w'.heap[b12]? = some (.cells (nums .u8 k0).toArray 27 (0, 0)) ∧ w'.heap[b13]? = some (.cells (nums .u8 d0).toArray 27 (0, 0)) ∧ w'.heap[b14]? = some (.cells (nums .u8 zeroD).toArray 27 (0, 0)) ∧ w8.heap.size ≤ b14) ?hcontr6 (fun hJ => ?hwaysr6)
  case hwaysr6 =>
    refine two_ (i := 2) (j := 3) (Ni := some 41) (Nj := some 14) #[true, true, true, false, false] #[true, true, false, true, false] rfl rfl rfl rfl (by kernel_rfl) (by decide) (by decide) (fun K hK => ?way1r6) (fun K hK => ?way2r6)
    case way1r6 =>
      refine goes_ Tryd.func8 (by kernel_rfl) rfl #[.slice (some ⟨b12, 0, none⟩) 32 32, .slice (some ⟨b13, 0, none⟩) 32 32] (by rfl) rfl rfl (by simp only [List.map_toArray, List.map_cons, List.map_nil]; rfl) ?_
      refine (digest_callsN _ b12 b13 32 32 _ _ k0 d0 wk HWK.out (HF.out.up keys_r6.out.below) (HL.out.up keys_r6.out.below) HKI.out HD0.out b12_r6.out b13_r6.out (Nat.le_refl _) (Nat.le_refl _)).mono ?_
      rintro e w9 ⟨rfl, l9⟩
      refine ⟨_, rfl, hK.out _ _ trivial (fun _ => ?_)⟩
      clear hK K
      refine one_ (i := 3) (N := some 14) #[true, true, true, true, false] rfl rfl (by kernel_rfl) (by decide) (fun K hK => ?_)
      refine box_step (by rfl) (N := 14) rfl (cs := (nums .u8 zeroD).toArray) (t := 27) (by first | (go_simp; done) | (go_simp; rfl)) ?_
      intro b14 hbb14 w10 hbox hbl
      refine hK.out _ _ trivial (fun _ => ?_)
      clear hK K
      have h := hJ b14 w10 ⟨((keys_r6.out.low l9).low hbl), (blk_below (blk_below b12_r6.out l9) hbl), (blk_below (blk_below b13_r6.out l9) hbl), hbox, by have := l9.size; omega⟩
      exact h
    case way2r6 =>
      refine box_step (by rfl) (N := 14) rfl (cs := (nums .u8 zeroD).toArray) (t := 27) (by first | (go_simp; done) | (go_simp; rfl)) ?_
      intro b14 hbb14 w9 hbox hbl
      refine hK.out _ _ trivial (fun _ => ?_)
      clear hK K
      refine one_ (i := 2) (N := some 41) #[true, true, true, true, false] rfl rfl (by kernel_rfl) (by decide) (fun K hK => ?_)
      refine goes_ Tryd.func8 (by kernel_rfl) rfl #[.slice (some ⟨b12, 0, none⟩) 32 32, .slice (some ⟨b13, 0, none⟩) 32 32] (by rfl) rfl rfl (by simp only [List.map_toArray, List.map_cons, List.map_nil]; rfl) ?_
      refine (digest_callsN _ b12 b13 32 32 _ _ k0 d0 wk HWK.out (HF.out.up (keys_r6.out.low hbl).below) (HL.out.up (keys_r6.out.low hbl).below) HKI.out HD0.out (blk_below b12_r6.out hbl) (blk_below b13_r6.out hbl) (Nat.le_refl _) (Nat.le_refl _)).mono ?_
      rintro e w10 ⟨rfl, l10⟩
      refine ⟨_, rfl, hK.out _ _ trivial (fun _ => ?_)⟩
      clear hK K
      have h := hJ b14 w10 ⟨((keys_r6.out.low hbl).low l10), (blk_below (blk_below b12_r6.out hbl) l10), (blk_below (blk_below b13_r6.out hbl) l10), blk_below hbox l10, by omega⟩
      simp only [putAll, Act.put, List.setIfInBounds_toArray, List.set_cons_zero, List.set_cons_succ] at h ⊢
      exact h
  intro b14 w9 hF9
  obtain ⟨hkeysr6, hb12r6, hb13r6, hbz, hbs⟩ := hF9
  have HN14 := Aside0.mk (And.intro (show b13 < b14 by have := blk_lt b13_r6.out; omega) (show w1.heap.size ≤ b14 by have := blk_lt b13_r6.out; have := G13.out; omega))
  clear keys_r6 b12_r6 b13_r6
  simp only [putAll, Act.put, List.setIfInBounds_toArray, List.set_cons_zero, List.set_cons_succ]
  refine one_ (i := 4) (N := none) #[true, true, true, true, true] rfl rfl (by kernel_rfl) (by decide) (fun K hK => ?_)
  rw [if_pos (by rfl)]
  refine wp_store_row 27 (.tmp 14) (.tmp 41) rfl b14 (nums .u8 wk).toArray rfl rfl 27 _ hbz HDw.out.1 (by rw [HDw.out.2.1]; rfl) HDw.out.2.2 ?_
  have K9 := Aside0.mk (hkeysr6.row HU.out HN14.out.2 (by have := HN14.out; have := HNW.out; omega) (nums .u8 wk).toArray)
  have B149 := Aside0.mk (setRow_heap _ b14 _ (nums .u8 wk).toArray _ _ hbz)
  have B139 := Aside0.mk (blk_row (b := b14) hb13r6 (by have := HN14.out; omega) (nums .u8 wk).toArray)
  clear hkeysr6 hb12r6 hb13r6 hbz hbs
  generalize w9.setRow b14 (nums .u8 wk).toArray = w10 at K9 B149 B139 ⊢
  refine hK.out _ _ trivial (fun _ => ?_)
  clear hK K
  refine norm_ (a' := ?an6) ?hn6 ?hm6
  case hn6 =>
    show Act.put _ none _ = _
    simp only [Act.put]
    rfl
  refine done_ (by kernel_rfl) ?_
  clear hHeld
  go_wp2_with (fail)
  refine start_ (n := 5) (S := fun w' => Keys x w w' sec [] ∧ w'.heap[b13]? = some (.cells (nums .u8 d0).toArray 27 (0, 0)) ∧ w'.heap[b14]? = some (.cells (nums .u8 wk).toArray 27 (0, 0))) (ds := []) #[false, false, false, false, false] (by kernel_rfl) rfl rfl ⟨K9.out.drew, blk_drew B139.out, blk_drew B149.out⟩ (fun hHeld => ?_)
  refine pure_ (i := 0) (N := some 42) (v := ?v3) (a' := ?a3) #[true, false, false, false, false] rfl rfl (by kernel_rfl) (fun _ _ _ h => h) (Or.inl ⟨by rfl, ?hy3⟩) ?ha3 ?hh3
  case hy3 =>
    intro w'
    go_simp
    with_reducible rfl
  case ha3 =>
    simp only [Act.put, List.setIfInBounds_toArray, List.set_cons_zero, List.set_cons_succ]
    rfl
  refine take_ (i := 2) (N := some 44) (v := (.agg (nums .u8 d0).toArray)) (a' := ?a4) #[true, false, true, false, false] rfl rfl (by kernel_rfl) (fun _ _ _ h => h) (Or.inl ⟨by rfl, fun w' s0 => loadB_run (.tmp 13) rfl b13 rfl _ HD0.out.1 s0.2.1⟩) hHeld ?ha4 ?hh4
  case ha4 =>
    simp only [Act.put, List.setIfInBounds_toArray, List.set_cons_zero, List.set_cons_succ]
    rfl
  refine take_ (i := 3) (N := some 45) (v := (.agg (nums .u8 wk).toArray)) (a' := ?a5) #[true, false, true, true, false] rfl rfl (by kernel_rfl) (fun _ _ _ h => h) (Or.inl ⟨by rfl, fun w' s0 => loadB_run (.tmp 14) rfl b14 rfl _ HWI.out.1 s0.2.2⟩) hHeld ?ha5 ?hh5
  case ha5 =>
    simp only [Act.put, List.setIfInBounds_toArray, List.set_cons_zero, List.set_cons_succ]
    rfl
  refine one_ (i := 1) (N := some 43) #[true, true, true, true, false] rfl rfl (by kernel_rfl) (by decide) (fun K hK => ?_)
  refine goes_ Tryd.func9 (by kernel_rfl) rfl #[.int .i64 0] (by rfl) rfl rfl (by simp only [List.map_toArray, List.map_cons, List.map_nil]; rfl) ?_
  refine (name_calls 0 _).mono ?_
  rintro e wn1 ⟨rfl, ln1⟩
  refine ⟨_, rfl, hK.out _ _ ⟨hHeld.1.low ln1, blk_below hHeld.2.1 ln1, blk_below hHeld.2.2 ln1⟩ (fun hHeld => ?_)⟩
  clear hK K ln1
  refine norm_ (a' := ?a6) ?ha6 ?hh6
  case ha6 =>
    show Act.put _ (some 43) _ = _
    simp only [Act.put, List.setIfInBounds_toArray, List.set_cons_zero, List.set_cons_succ]
    rfl
  refine one_ (i := 4) (N := some 46) #[true, true, true, true, true] rfl rfl (by kernel_rfl) (by decide) (fun K hK => ?_)
  refine goes_ Tryd.func10 (by kernel_rfl) rfl #[.pointer (some ⟨x.b, 0, none⟩), .string (nm 0), .agg (nums .u8 d0).toArray, .agg (nums .u8 wk).toArray] (by rfl) rfl rfl (by simp only [List.map_toArray, List.map_cons, List.map_nil]; rfl) ?_
  refine (show Calls Tryd.prog 10 #[.pointer (some ⟨x.b, 0, none⟩), .string (nm 0), .agg (nums .u8 d0).toArray, .agg (nums .u8 wk).toArray] _ _ from hHeld.1.verifyB rfl 0 d0 wk HD0.out HWI.out).mono ?_
  rintro e wv2 ⟨rfl, lv2⟩
  rw [show decide (sf sec [] (nm 0, d0) = some wk) = false from (by rw [sf_nil]; rfl)]
  refine ⟨_, rfl, hK.out _ _ ⟨hHeld.1.low lv2, blk_below hHeld.2.1 lv2, blk_below hHeld.2.2 lv2⟩ (fun hHeld => ?_)⟩
  clear hK K lv2
  refine norm_ (a' := ?a7) ?ha7 ?hh7
  case ha7 =>
    show Act.put _ (some 46) _ = _
    simp only [Act.put, List.setIfInBounds_toArray, List.set_cons_zero, List.set_cons_succ]
    rfl
  refine done_ (by kernel_rfl) ?_
  have keys_r7 := Aside0.mk hHeld.1
  have b13_r7 := Aside0.mk hHeld.2.1
  have b14_r7 := Aside0.mk hHeld.2.2
  clear hHeld K9 B139 B149
  go_wp2_with (fail)
  refine start_ (n := 10) (S := fun w' => w'.heap[b13]? = some (.cells (nums .u8 d0).toArray 27 (0, 0))) (ds := []) #[false, false, false, false, false, false, false, false, false, false] (by kernel_rfl) rfl rfl (blk_drew b13_r7.out) (fun hHeld => ?_)
  refine pure_ (i := 0) (N := some 48) (v := ?v8) (a' := ?a8) #[true, false, false, false, false, false, false, false, false, false] rfl rfl (by kernel_rfl) (fun _ _ _ h => h) (Or.inl ⟨by rfl, ?hy8⟩) ?ha8 ?hh8
  case hy8 =>
    intro w'
    go_simp
    with_reducible rfl
  case ha8 =>
    simp only [Act.put, List.setIfInBounds_toArray, List.set_cons_zero, List.set_cons_succ]
    rfl
  refine take_ (i := 2) (N := some 50) (v := (.agg (nums .u8 d0).toArray)) (a' := ?a9) #[true, false, true, false, false, false, false, false, false, false] rfl rfl (by kernel_rfl) (fun _ _ _ h => h) (Or.inl ⟨by rfl, fun w' s0 => loadB_run (.tmp 13) rfl b13 rfl _ HD0.out.1 s0⟩) hHeld ?ha9 ?hh9
  case ha9 =>
    simp only [Act.put, List.setIfInBounds_toArray, List.set_cons_zero, List.set_cons_succ]
    rfl
  have keys_r9 := Aside0.mk (keys_r7.out.drew)
  have b13_r9 := Aside0.mk (blk_drew b13_r7.out)
  have b14_r9 := Aside0.mk (blk_drew b14_r7.out)
  clear hHeld
  refine join_ 2 #[true, true, true, true, true, true, true, true, false, false] (fun b15 : Nat => [(49, .string (nm 0)), (51, .tuple #[.agg (nums .u8 wk).toArray, .int .i64 0]), (15, .pointer (some ⟨b15, 0, none⟩)), (47, .tuple #[.agg (nums .u8 wk).toArray, .int .i64 0]), (52, .agg (nums .u8 wk).toArray), (53, .int .i64 0)]) (fun b15 w' => Keys (x.signedWith (nm 0) d0 wk) w w' sec ([] ++ [(0, d0)]) ∧ w'.heap[b13]? = some (.cells (nums .u8 d0).toArray 27 (0, 0)) ∧ w'.heap[b14]? = some (.cells (nums .u8 wk).toArray 27 (0, 0)) ∧ w'.heap[b15]? = some (.cells (nums .u8 zeroD).toArray 27 (0, 0)) ∧ b14 < b15) ?hcontr9 (fun hJ => ?hwaysr9)
  case hwaysr9 =>
    refine two_ (i := 1) (j := 7) (Ni := some 49) (Nj := some 15) #[true, true, true, false, false, false, false, false, false, false] #[true, false, true, false, false, false, false, true, false, false] rfl rfl rfl rfl (by kernel_rfl) (by decide) (by decide) (fun K hK => ?way1r9) (fun K hK => ?way2r9)
    case way1r9 =>
      refine goes_ Tryd.func9 (by kernel_rfl) rfl #[.int .i64 0] (by rfl) rfl rfl (by simp only [List.map_toArray, List.map_cons, List.map_nil]; rfl) ?_
      refine (name_calls 0 _).mono ?_
      rintro e wnr91 ⟨rfl, lnr91⟩
      refine ⟨_, rfl, hK.out _ _ (blk_below b13_r9.out lnr91) (fun _ => ?_)⟩
      clear hK K
      refine two_ (i := 3) (j := 7) (Ni := some 51) (Nj := some 15) #[true, true, true, true, false, false, false, false, false, false] #[true, true, true, false, false, false, false, true, false, false] rfl rfl rfl rfl (by kernel_rfl) (by decide) (by decide) (fun K hK => ?way3r9) (fun K hK => ?way4r9)
      case way3r9 =>
        refine goes_ Tryd.func11 (by kernel_rfl) rfl #[.pointer (some ⟨x.b, 0, none⟩), .string (nm 0), .agg (nums .u8 d0).toArray] (by rfl) rfl rfl (by simp only [List.map_toArray, List.map_cons, List.map_nil]; rfl) ?_
        refine ((keys_r9.out.low lnr91).signB rfl HF.out HL.out 0 d0 wk HSE.out HD0.out (by decide)).mono ?_
        rintro e wsr92 ⟨rfl, ksr92, hsr92⟩
        refine ⟨_, rfl, hK.out _ _ (keep_blk ksr92 (keys_r9.out.low lnr91).at_.signed (blk_below b13_r9.out lnr91)) (fun _ => ?_)⟩
        clear hK K
        refine pure_ (i := 4) (N := some 47) (v := ?v10) (a' := ?a10) #[true, true, true, true, true, false, false, false, false, false] rfl rfl (by kernel_rfl) (fun _ _ _ h => h) (Or.inl ⟨by rfl, ?hy10⟩) ?ha10 ?hh10
        case hy10 =>
          intro w'
          go_simp
          with_reducible rfl
        case ha10 =>
          simp only [Act.put, List.setIfInBounds_toArray, List.set_cons_zero, List.set_cons_succ]
          rfl
        refine pure_ (i := 5) (N := some 52) (v := ?v11) (a' := ?a11) #[true, true, true, true, true, true, false, false, false, false] rfl rfl (by kernel_rfl) (fun _ _ _ h => h) (Or.inl ⟨by rfl, ?hy11⟩) ?ha11 ?hh11
        case hy11 =>
          intro w'
          go_simp
          with_reducible rfl
        case ha11 =>
          simp only [Act.put, List.setIfInBounds_toArray, List.set_cons_zero, List.set_cons_succ]
          rfl
        refine pure_ (i := 6) (N := some 53) (v := ?v12) (a' := ?a12) #[true, true, true, true, true, true, true, false, false, false] rfl rfl (by kernel_rfl) (fun _ _ _ h => h) (Or.inl ⟨by rfl, ?hy12⟩) ?ha12 ?hh12
        case hy12 =>
          intro w'
          go_simp
          with_reducible rfl
        case ha12 =>
          simp only [Act.put, List.setIfInBounds_toArray, List.set_cons_zero, List.set_cons_succ]
          rfl
        refine one_ (i := 7) (N := some 15) #[true, true, true, true, true, true, true, true, false, false] rfl rfl (by kernel_rfl) (by decide) (fun K hK => ?_)
        refine box_step (by rfl) (N := 15) rfl (cs := (nums .u8 zeroD).toArray) (t := 27) (by first | (go_simp; done) | (go_simp; rfl)) ?_
        intro b15 b15e war93 b15b lar93
        refine hK.out _ _ (blk_below (keep_blk ksr92 (keys_r9.out.low lnr91).at_.signed (blk_below b13_r9.out lnr91)) lar93) (fun _ => ?_)
        clear hK K
        have h := hJ b15 war93 ⟨(hsr92.low lar93), (blk_below (keep_blk ksr92 (keys_r9.out.low lnr91).at_.signed (blk_below b13_r9.out lnr91)) lar93), (blk_below (keep_blk ksr92 (keys_r9.out.low lnr91).at_.signed (blk_below b14_r9.out lnr91)) lar93), b15b, by have z1 := lnr91.size; have z2 := ksr92.1; have z3 := lar93.size; have z0 := blk_lt b14_r9.out; omega⟩
        simp only [putAll, Act.put, List.setIfInBounds_toArray, List.set_cons_zero, List.set_cons_succ] at h ⊢
        exact h
      case way4r9 =>
        refine box_step (by rfl) (N := 15) rfl (cs := (nums .u8 zeroD).toArray) (t := 27) (by first | (go_simp; done) | (go_simp; rfl)) ?_
        intro b15 b15e war94 b15b lar94
        refine hK.out _ _ (blk_below (blk_below b13_r9.out lnr91) lar94) (fun _ => ?_)
        clear hK K
        refine one_ (i := 3) (N := some 51) #[true, true, true, true, false, false, false, true, false, false] rfl rfl (by kernel_rfl) (by decide) (fun K hK => ?_)
        refine goes_ Tryd.func11 (by kernel_rfl) rfl #[.pointer (some ⟨x.b, 0, none⟩), .string (nm 0), .agg (nums .u8 d0).toArray] (by rfl) rfl rfl (by simp only [List.map_toArray, List.map_cons, List.map_nil]; rfl) ?_
        refine (((keys_r9.out.low lnr91).low lar94).signB rfl HF.out HL.out 0 d0 wk HSE.out HD0.out (by decide)).mono ?_
        rintro e wsr95 ⟨rfl, ksr95, hsr95⟩
        refine ⟨_, rfl, hK.out _ _ (keep_blk ksr95 ((keys_r9.out.low lnr91).low lar94).at_.signed (blk_below (blk_below b13_r9.out lnr91) lar94)) (fun _ => ?_)⟩
        clear hK K
        refine pure_ (i := 4) (N := some 47) (v := ?v13) (a' := ?a13) #[true, true, true, true, true, false, false, true, false, false] rfl rfl (by kernel_rfl) (fun _ _ _ h => h) (Or.inl ⟨by rfl, ?hy13⟩) ?ha13 ?hh13
        case hy13 =>
          intro w'
          go_simp
          with_reducible rfl
        case ha13 =>
          simp only [Act.put, List.setIfInBounds_toArray, List.set_cons_zero, List.set_cons_succ]
          rfl
        refine pure_ (i := 5) (N := some 52) (v := ?v14) (a' := ?a14) #[true, true, true, true, true, true, false, true, false, false] rfl rfl (by kernel_rfl) (fun _ _ _ h => h) (Or.inl ⟨by rfl, ?hy14⟩) ?ha14 ?hh14
        case hy14 =>
          intro w'
          go_simp
          with_reducible rfl
        case ha14 =>
          simp only [Act.put, List.setIfInBounds_toArray, List.set_cons_zero, List.set_cons_succ]
          rfl
        refine pure_ (i := 6) (N := some 53) (v := ?v15) (a' := ?a15) #[true, true, true, true, true, true, true, true, false, false] rfl rfl (by kernel_rfl) (fun _ _ _ h => h) (Or.inl ⟨by rfl, ?hy15⟩) ?ha15 ?hh15
        case hy15 =>
          intro w'
          go_simp
          with_reducible rfl
        case ha15 =>
          simp only [Act.put, List.setIfInBounds_toArray, List.set_cons_zero, List.set_cons_succ]
          rfl
        have h := hJ b15 wsr95 ⟨hsr95, (keep_blk ksr95 ((keys_r9.out.low lnr91).low lar94).at_.signed (blk_below (blk_below b13_r9.out lnr91) lar94)), (keep_blk ksr95 ((keys_r9.out.low lnr91).low lar94).at_.signed (blk_below (blk_below b14_r9.out lnr91) lar94)), (keep_blk ksr95 ((keys_r9.out.low lnr91).low lar94).at_.signed b15b), by have z1 := lnr91.size; have z0 := blk_lt b14_r9.out; omega⟩
        simp only [putAll, Act.put, List.setIfInBounds_toArray, List.set_cons_zero, List.set_cons_succ] at h ⊢
        exact h
    case way2r9 =>
      refine box_step (by rfl) (N := 15) rfl (cs := (nums .u8 zeroD).toArray) (t := 27) (by first | (go_simp; done) | (go_simp; rfl)) ?_
      intro b15 b15e war96 b15b lar96
      refine hK.out _ _ (blk_below b13_r9.out lar96) (fun _ => ?_)
      clear hK K
      refine one_ (i := 1) (N := some 49) #[true, true, true, false, false, false, false, true, false, false] rfl rfl (by kernel_rfl) (by decide) (fun K hK => ?_)
      refine goes_ Tryd.func9 (by kernel_rfl) rfl #[.int .i64 0] (by rfl) rfl rfl (by simp only [List.map_toArray, List.map_cons, List.map_nil]; rfl) ?_
      refine (name_calls 0 _).mono ?_
      rintro e wnr97 ⟨rfl, lnr97⟩
      refine ⟨_, rfl, hK.out _ _ (blk_below (blk_below b13_r9.out lar96) lnr97) (fun _ => ?_)⟩
      clear hK K
      refine one_ (i := 3) (N := some 51) #[true, true, true, true, false, false, false, true, false, false] rfl rfl (by kernel_rfl) (by decide) (fun K hK => ?_)
      refine goes_ Tryd.func11 (by kernel_rfl) rfl #[.pointer (some ⟨x.b, 0, none⟩), .string (nm 0), .agg (nums .u8 d0).toArray] (by rfl) rfl rfl (by simp only [List.map_toArray, List.map_cons, List.map_nil]; rfl) ?_
      refine (((keys_r9.out.low lar96).low lnr97).signB rfl HF.out HL.out 0 d0 wk HSE.out HD0.out (by decide)).mono ?_
      rintro e wsr98 ⟨rfl, ksr98, hsr98⟩
      refine ⟨_, rfl, hK.out _ _ (keep_blk ksr98 ((keys_r9.out.low lar96).low lnr97).at_.signed (blk_below (blk_below b13_r9.out lar96) lnr97)) (fun _ => ?_)⟩
      clear hK K
      refine pure_ (i := 4) (N := some 47) (v := ?v16) (a' := ?a16) #[true, true, true, true, true, false, false, true, false, false] rfl rfl (by kernel_rfl) (fun _ _ _ h => h) (Or.inl ⟨by rfl, ?hy16⟩) ?ha16 ?hh16
      case hy16 =>
        intro w'
        go_simp
        with_reducible rfl
      case ha16 =>
        simp only [Act.put, List.setIfInBounds_toArray, List.set_cons_zero, List.set_cons_succ]
        rfl
      refine pure_ (i := 5) (N := some 52) (v := ?v17) (a' := ?a17) #[true, true, true, true, true, true, false, true, false, false] rfl rfl (by kernel_rfl) (fun _ _ _ h => h) (Or.inl ⟨by rfl, ?hy17⟩) ?ha17 ?hh17
      case hy17 =>
        intro w'
        go_simp
        with_reducible rfl
      case ha17 =>
        simp only [Act.put, List.setIfInBounds_toArray, List.set_cons_zero, List.set_cons_succ]
        rfl
      refine pure_ (i := 6) (N := some 53) (v := ?v18) (a' := ?a18) #[true, true, true, true, true, true, true, true, false, false] rfl rfl (by kernel_rfl) (fun _ _ _ h => h) (Or.inl ⟨by rfl, ?hy18⟩) ?ha18 ?hh18
      case hy18 =>
        intro w'
        go_simp
        with_reducible rfl
      case ha18 =>
        simp only [Act.put, List.setIfInBounds_toArray, List.set_cons_zero, List.set_cons_succ]
        rfl
      have h := hJ b15 wsr98 ⟨hsr98, (keep_blk ksr98 ((keys_r9.out.low lar96).low lnr97).at_.signed (blk_below (blk_below b13_r9.out lar96) lnr97)), (keep_blk ksr98 ((keys_r9.out.low lar96).low lnr97).at_.signed (blk_below (blk_below b14_r9.out lar96) lnr97)), (keep_blk ksr98 ((keys_r9.out.low lar96).low lnr97).at_.signed (blk_below b15b lnr97)), by have z0 := blk_lt b14_r9.out; omega⟩
      simp only [putAll, Act.put, List.setIfInBounds_toArray, List.set_cons_zero, List.set_cons_succ] at h ⊢
      exact h
  intro b15 wjr9 hFr9
  obtain ⟨hkeysr9, hb13r9, hb14r9, hbzr9, hbsr9⟩ := hFr9
  clear keys_r9 b13_r9 b14_r9
  simp only [putAll, Act.put, List.setIfInBounds_toArray, List.set_cons_zero, List.set_cons_succ]
  refine one_ (i := 8) (N := none) #[true, true, true, true, true, true, true, true, true, false] rfl rfl (by kernel_rfl) (by decide) (fun K hK => ?_)
  rw [if_pos (by rfl)]
  refine wp_store_row 27 (.tmp 15) (.tmp 52) rfl b15 (nums .u8 wk).toArray rfl rfl 27 _ hbzr9 HDw.out.1 (by rw [HDw.out.2.1]; rfl) HDw.out.2.2 ?_
  have NB15 := Aside0.mk hbsr9
  have HN15 := Aside0.mk (show b13 < b15 ∧ b14 < b15 ∧ w1.heap.size ≤ b15 by have := HN14.out; have := NB15.out; omega)
  have K10 := Aside0.mk (hkeysr9.row (n := w1.heap.size) HU.out HN15.out.2.2 (by have := HN15.out; have := HNW.out; omega) (nums .u8 wk).toArray)
  have B1510 := Aside0.mk (setRow_heap _ b15 _ (nums .u8 wk).toArray _ _ hbzr9)
  have B1310 := Aside0.mk (blk_row (b := b15) hb13r9 (by have := HN15.out; omega) (nums .u8 wk).toArray)
  have B1410 := Aside0.mk (blk_row (b := b15) hb14r9 (by have := HN15.out; omega) (nums .u8 wk).toArray)
  obtain ⟨x1, hx1⟩ : ∃ y, (x.signedWith (nm 0) d0 wk) = y := ⟨_, rfl⟩
  have HX1 := Aside0.mk (show x1.b = x.b ∧ x1.under w1.heap.size by rw [← hx1]; exact ⟨rfl, HU.out⟩)
  rw [hx1, List.nil_append] at K10
  clear hkeysr9 hb13r9 hb14r9 hbzr9 hbsr9 hx1
  generalize wjr9.setRow b15 (nums .u8 wk).toArray = w11 at K10 B1510 B1310 B1410 ⊢
  refine hK.out _ _ (B1310.out) (fun _ => ?_)
  clear hK K
  refine norm_ (a' := ?an9) ?hn9 ?hm9
  case hn9 =>
    show Act.put _ none _ = _
    simp only [Act.put]
    rfl
  refine pure_ (i := 9) (N := some 16) (v := ?v19) (a' := ?a19) #[true, true, true, true, true, true, true, true, true, true] rfl rfl (by kernel_rfl) (fun _ _ _ h => h) (Or.inl ⟨by rfl, ?hy19⟩) ?ha19 ?hh19
  case hy19 =>
    intro w'
    go_simp
    with_reducible rfl
  case ha19 =>
    simp only [Act.put, List.setIfInBounds_toArray, List.set_cons_zero, List.set_cons_succ]
    rfl
  refine done_ (by kernel_rfl) ?_
  go_wp2_with (fail)
  refine start_ (n := 15) (S := fun w' => Keys x1 w w' sec [(0, d0)] ∧ w'.heap[b13]? = some (.cells (nums .u8 d0).toArray 27 (0, 0)) ∧ w'.heap[b14]? = some (.cells (nums .u8 wk).toArray 27 (0, 0)) ∧ w'.heap[b15]? = some (.cells (nums .u8 wk).toArray 27 (0, 0))) (ds := []) #[false, false, false, false, false, false, false, false, false, false, false, false, false, false, false] (by kernel_rfl) rfl rfl ⟨K10.out.drew, blk_drew B1310.out, blk_drew B1410.out, blk_drew B1510.out⟩ (fun hHeld => ?_)
  refine pure_ (i := 0) (N := some 54) (v := ?v20) (a' := ?a20) #[true, false, false, false, false, false, false, false, false, false, false, false, false, false, false] rfl rfl (by kernel_rfl) (fun _ _ _ h => h) (Or.inl ⟨by rfl, ?hy20⟩) ?ha20 ?hh20
  case hy20 =>
    intro w'
    go_simp
    with_reducible rfl
  case ha20 =>
    simp only [Act.put, List.setIfInBounds_toArray, List.set_cons_zero, List.set_cons_succ]
    rfl
  refine pure_ (i := 1) (N := some 55) (v := ?v21) (a' := ?a21) #[true, true, false, false, false, false, false, false, false, false, false, false, false, false, false] rfl rfl (by kernel_rfl) (fun _ _ _ h => h) (Or.inl ⟨by rfl, ?hy21⟩) ?ha21 ?hh21
  case hy21 =>
    intro w'
    go_simp
    with_reducible rfl
  case ha21 =>
    simp only [Act.put, List.setIfInBounds_toArray, List.set_cons_zero, List.set_cons_succ]
    rfl
  refine pure_ (i := 2) (N := some 56) (v := ?v22) (a' := ?a22) #[true, true, true, false, false, false, false, false, false, false, false, false, false, false, false] rfl rfl (by kernel_rfl) (fun _ _ _ h => h) (Or.inl ⟨by rfl, ?hy22⟩) ?ha22 ?hh22
  case hy22 =>
    intro w'
    go_simp
    with_reducible rfl
  case ha22 =>
    simp only [Act.put, List.setIfInBounds_toArray, List.set_cons_zero, List.set_cons_succ]
    rfl
  refine take_ (i := 3) (N := some 57) (v := (.agg (nums .u8 wk).toArray)) (a' := ?a23) #[true, true, true, true, false, false, false, false, false, false, false, false, false, false, false] rfl rfl (by kernel_rfl) (fun _ _ _ h => h) (Or.inl ⟨by rfl, fun w' s0 => loadB_run (.tmp 15) rfl b15 rfl _ HWI.out.1 s0.2.2.2⟩) hHeld ?ha23 ?hh23
  case ha23 =>
    simp only [Act.put, List.setIfInBounds_toArray, List.set_cons_zero, List.set_cons_succ]
    rfl
  refine take_ (i := 4) (N := some 58) (v := (.agg (nums .u8 wk).toArray)) (a' := ?a24) #[true, true, true, true, true, false, false, false, false, false, false, false, false, false, false] rfl rfl (by kernel_rfl) (fun _ _ _ h => h) (Or.inl ⟨by rfl, fun w' s0 => loadB_run (.tmp 14) rfl b14 rfl _ HWI.out.1 s0.2.2.1⟩) hHeld ?ha24 ?hh24
  case ha24 =>
    simp only [Act.put, List.setIfInBounds_toArray, List.set_cons_zero, List.set_cons_succ]
    rfl
  refine pure_ (i := 5) (N := some 59) (v := (.bool false)) (a' := ?a25) #[true, true, true, true, true, true, false, false, false, false, false, false, false, false, false] rfl rfl (by kernel_rfl) (fun _ _ _ h => h) (Or.inl ⟨by rfl, fun w' => neqD_run _ (.tmp 57) (.tmp 58) rfl _ _ rfl rfl HWI.out HWI.out true (decide_eq_true rfl)⟩) ?ha25 ?hh25
  case ha25 =>
    simp only [Act.put, List.setIfInBounds_toArray, List.set_cons_zero, List.set_cons_succ]
    rfl
  refine pure_ (i := 6) (N := some 60) (v := ?v26) (a' := ?a26) #[true, true, true, true, true, true, true, false, false, false, false, false, false, false, false] rfl rfl (by kernel_rfl) (fun _ _ _ h => h) (Or.inl ⟨by rfl, ?hy26⟩) ?ha26 ?hh26
  case hy26 =>
    intro w'
    go_simp
    with_reducible rfl
  case ha26 =>
    simp only [Act.put, List.setIfInBounds_toArray, List.set_cons_zero, List.set_cons_succ]
    rfl
  refine pure_ (i := 7) (N := some 61) (v := ?v27) (a' := ?a27) #[true, true, true, true, true, true, true, true, false, false, false, false, false, false, false] rfl rfl (by kernel_rfl) (fun _ _ _ h => h) (Or.inl ⟨by rfl, ?hy27⟩) ?ha27 ?hh27
  case hy27 =>
    intro w'
    go_simp
    with_reducible rfl
  case ha27 =>
    simp only [Act.put, List.setIfInBounds_toArray, List.set_cons_zero, List.set_cons_succ]
    rfl
  refine pure_ (i := 8) (N := some 62) (v := ?v28) (a' := ?a28) #[true, true, true, true, true, true, true, true, true, false, false, false, false, false, false] rfl rfl (by kernel_rfl) (fun _ _ _ h => h) (Or.inl ⟨by rfl, ?hy28⟩) ?ha28 ?hh28
  case hy28 =>
    intro w'
    go_simp
    with_reducible rfl
  case ha28 =>
    simp only [Act.put, List.setIfInBounds_toArray, List.set_cons_zero, List.set_cons_succ]
    rfl
  refine take_ (i := 10) (N := some 64) (v := (.agg (nums .u8 d0).toArray)) (a' := ?a29) #[true, true, true, true, true, true, true, true, true, false, true, false, false, false, false] rfl rfl (by kernel_rfl) (fun _ _ _ h => h) (Or.inl ⟨by rfl, fun w' s0 => loadB_run (.tmp 13) rfl b13 rfl _ HD0.out.1 s0.2.1⟩) hHeld ?ha29 ?hh29
  case ha29 =>
    simp only [Act.put, List.setIfInBounds_toArray, List.set_cons_zero, List.set_cons_succ]
    rfl
  refine take_ (i := 11) (N := some 65) (v := (.agg (nums .u8 wk).toArray)) (a' := ?a30) #[true, true, true, true, true, true, true, true, true, false, true, true, false, false, false] rfl rfl (by kernel_rfl) (fun _ _ _ h => h) (Or.inl ⟨by rfl, fun w' s0 => loadB_run (.tmp 14) rfl b14 rfl _ HWI.out.1 s0.2.2.1⟩) hHeld ?ha30 ?hh30
  case ha30 =>
    simp only [Act.put, List.setIfInBounds_toArray, List.set_cons_zero, List.set_cons_succ]
    rfl
  refine one_ (i := 9) (N := some 63) #[true, true, true, true, true, true, true, true, true, true, true, true, false, false, false] rfl rfl (by kernel_rfl) (by decide) (fun K hK => ?_)
  refine goes_ Tryd.func9 (by kernel_rfl) rfl #[.int .i64 0] (by rfl) rfl rfl (by simp only [List.map_toArray, List.map_cons, List.map_nil]; rfl) ?_
  refine (name_calls 0 _).mono ?_
  rintro e wn101 ⟨rfl, ln101⟩
  refine ⟨_, rfl, hK.out _ _ ⟨hHeld.1.low ln101, blk_below hHeld.2.1 ln101, blk_below hHeld.2.2.1 ln101, blk_below hHeld.2.2.2 ln101⟩ (fun hHeld => ?_)⟩
  clear hK K ln101
  refine norm_ (a' := ?a31) ?ha31 ?hh31
  case ha31 =>
    show Act.put _ (some 63) _ = _
    simp only [Act.put, List.setIfInBounds_toArray, List.set_cons_zero, List.set_cons_succ]
    rfl
  refine one_ (i := 12) (N := some 66) #[true, true, true, true, true, true, true, true, true, true, true, true, true, false, false] rfl rfl (by kernel_rfl) (by decide) (fun K hK => ?_)
  refine goes_ Tryd.func10 (by kernel_rfl) rfl #[.pointer (some ⟨x.b, 0, none⟩), .string (nm 0), .agg (nums .u8 d0).toArray, .agg (nums .u8 wk).toArray] (by rfl) rfl rfl (by simp only [List.map_toArray, List.map_cons, List.map_nil]; rfl) ?_
  refine (show Calls Tryd.prog 10 #[.pointer (some ⟨x.b, 0, none⟩), .string (nm 0), .agg (nums .u8 d0).toArray, .agg (nums .u8 wk).toArray] _ _ from hHeld.1.verifyB HX1.out.1 0 d0 wk HD0.out HWI.out).mono ?_
  rintro e wv102 ⟨rfl, lv102⟩
  rw [show decide (sf sec [(0, d0)] (nm 0, d0) = some wk) = true from (by rw [sf_mem sec (p := (0, d0)) (List.mem_singleton.2 rfl), HSE.out]; exact decide_eq_true rfl)]
  refine ⟨_, rfl, hK.out _ _ ⟨hHeld.1.low lv102, blk_below hHeld.2.1 lv102, blk_below hHeld.2.2.1 lv102, blk_below hHeld.2.2.2 lv102⟩ (fun hHeld => ?_)⟩
  clear hK K lv102
  refine norm_ (a' := ?a32) ?ha32 ?hh32
  case ha32 =>
    show Act.put _ (some 66) _ = _
    simp only [Act.put, List.setIfInBounds_toArray, List.set_cons_zero, List.set_cons_succ]
    rfl
  refine pure_ (i := 13) (N := some 67) (v := ?v33) (a' := ?a33) #[true, true, true, true, true, true, true, true, true, true, true, true, true, true, false] rfl rfl (by kernel_rfl) (fun _ _ _ h => h) (Or.inl ⟨by rfl, ?hy33⟩) ?ha33 ?hh33
  case hy33 =>
    intro w'
    go_simp
    with_reducible rfl
  case ha33 =>
    simp only [Act.put, List.setIfInBounds_toArray, List.set_cons_zero, List.set_cons_succ]
    rfl
  refine pure_ (i := 14) (N := some 68) (v := ?v34) (a' := ?a34) #[true, true, true, true, true, true, true, true, true, true, true, true, true, true, true] rfl rfl (by kernel_rfl) (fun _ _ _ h => h) (Or.inl ⟨by rfl, ?hy34⟩) ?ha34 ?hh34
  case hy34 =>
    intro w'
    go_simp
    with_reducible rfl
  case ha34 =>
    simp only [Act.put, List.setIfInBounds_toArray, List.set_cons_zero, List.set_cons_succ]
    rfl
  refine done_ (by kernel_rfl) ?_
  have keys_ra := Aside0.mk hHeld.1
  have b13_ra := Aside0.mk hHeld.2.1
  have b14_ra := Aside0.mk hHeld.2.2.1
  have b15_ra := Aside0.mk hHeld.2.2.2
  clear hHeld K10 B1310 B1410 B1510
  go_wp2_with (first
    | ((with_reducible refine gate_dst (N := 69) rfl ?_); go_loud (refine Kd.event_run rfl (loadB_run (.tmp 13) rfl b13 rfl d0 HD0.out.1 b13_ra.out) ?_))
    | ((with_reducible refine gate_dst (N := 70) rfl ?_); go_loud (refine Kd.event_run rfl (buildP_run (.const (.int .i64 0)) (.tmp 69) 0 d0 HD0.out.1 rfl rfl rfl) ?_))
    | ((with_reducible refine gate_dst (N := 71) rfl ?_); go_loud (refine Kd.R_lit kP (w0 := w) w.heap.size 35 rfl (N := 71) rfl (xs := [((0, d0) : Pr)]) (inner := .int .i64 0 :: nums .u8 d0) (ok := fun k => w1.heap.size ≤ k) (okp := fun _ => False) (bslP_run (.tmp 70) (0, d0) HD0.out.1 rfl rfl) (reps_single (by rw [List.length_cons, nums_length, HD0.out.1]; rfl) (kP_M HD0.out.1)) (fun k hk => hk.elim) (by have := blk_lt b13_ra.out; have := G13.out; omega) keys_ra.out.below keys_ra.out.below.size (by simp) ?_; intro v17 w12 hr hx1 hg hx2; clear hx1 hx2; have R12 := Aside0.mk hr; have K12 := Aside0.mk (keys_ra.out.grown (n := w1.heap.size) HX1.out.2 hg (fun k hk => by cases hk)); have B1512 := Aside0.mk (blk_grown b15_ra.out hg (by simp)); clear hr hg))
    | ((with_reducible refine gate_dst (N := 72) rfl ?_); go_loud (refine Kd.event_run rfl (loadB_run (.tmp 15) rfl b15 rfl wk HWI.out.1 B1512.out) ?_))
    | ((with_reducible refine gate_dst (N := 73) rfl ?_); go_loud (refine Kd.R_lit kD (w0 := w) w.heap.size 27 rfl (N := 73) rfl (xs := [wk]) (inner := nums .u8 wk) (ok := fun k => w1.heap.size ≤ k) (okp := fun _ => False) (bslD_run (.tmp 72) wk HWI.out.1 rfl rfl) (reps_single (by rw [nums_length, HWI.out.1]; rfl) (kD_M HWI.out.1)) (fun k hk => hk.elim) (by have := blk_lt B1512.out; have := HN15.out; omega) K12.out.below K12.out.below.size (by simp) ?_; intro v18 w13 hr hx1 hg hx2; clear hx1 hx2; have S13 := Aside0.mk hr; have K13 := Aside0.mk (K12.out.grown (n := w1.heap.size) HX1.out.2 hg (fun k hk => by cases hk)); have R13 := Aside0.mk (Kd.R_grown R12.out hg (fun k _ => by simp)); clear hr hg)))
  have S13' := Aside0.mk (show kD.R 27 w13 w.heap.size (fun k => w1.heap.size ≤ k) v18 (((0, d0) :: sg.take 0).map (sealf sec)) by rw [List.take_zero, List.map_cons, List.map_nil, HSE.out]; exact S13.out)
  clear R12 K12 B1512 S13 keys_ra b13_ra b14_ra b15_ra
  rename_i KL aL
  go_loopg [17, 18, 19] sg.length (fun gg s17 s18 s19 wr => ∃ (i : Nat) (y : RV) (u17 u18 : Value), Aside0 (i ≤ sg.length ∧ i ≤ 30 ∧ sg.length - i ≤ gg) ∧ s19 = .int .i64 (i : Int) ∧ s17 = u17 ∧ s18 = u18 ∧ Aside0 (kP.R 35 wr w.heap.size (fun k => w1.heap.size ≤ k) u17 ((0, d0) :: sg.take i)) ∧ Aside0 (kD.R 27 wr w.heap.size (fun k => w1.heap.size ≤ k) u18 (((0, d0) :: sg.take i).map (sealf sec))) ∧ Aside0 (Keys y w wr sec ((0, d0) :: sg.take i)) ∧ Aside0 (y.b = x.b ∧ y.under w1.heap.size))
  case atStart => exact ⟨0, x1, _, _, ⟨by omega, by omega, by omega⟩, rfl, rfl, rfl, R13, S13', K13, HX1⟩
  case round =>
    clear R13 S13' K13 HX1
    obtain ⟨i, y, u17, u18, HI, rfl, rfl, rfl, HR, HSL, HK, HY⟩ := hrel
    by_cases hc : i < sg.length ∧ i < 30
    · have HC := Aside0.mk hc
      have HLT := Aside0.mk hc.1
      have c0 : decide ((i : Int) < (sg.length : Int)) = true := decide_eq_true (by omega)
      have c1' : decide (i < sg.length) = true := decide_eq_true hc.1
      have c2' : decide ((i : Int) < 30) = true := decide_eq_true (by omega)
      have c3' : decide (i < 30) = true := decide_eq_true hc.2
      obtain ⟨p, hp⟩ : ∃ p, sg[i]? = some p := ⟨_, List.getElem?_eq_getElem hc.1⟩
      have HP := Aside0.mk hp
      have HPD := Aside0.mk (HS1.out p (List.mem_of_getElem? hp))
      obtain ⟨ad, had, _⟩ := H1.out.2.2 (by omega)
      have p0 : (0 : Int) ≤ (i : Int) := by omega
      have en : (i : Int) + 1 = ((i + 1 : Nat) : Int) := by omega
      have mn : i + 1 ≤ 9223372036854775807 := by omega
      obtain ⟨hwn, hvn⟩ := idx_at en mn
      subst had
      obtain ⟨ps, hps⟩ : ∃ ps, ((0, d0) : Pr) :: sg.take i = ps := ⟨_, rfl⟩
      have HPS := Aside0.mk hps
      have HPL := Aside0.mk (show ps.length = i + 1 by rw [← hps, List.length_cons, List.length_take]; omega)
      have HPN := Aside0.mk (show ((0, d0) : Pr) :: sg.take (i + 1) = ps ++ [p] by rw [← hps, List.take_add_one, hp]; rfl)
      rw [hps] at HR HSL HK
      obtain ⟨sl, hsl⟩ : ∃ v, sealf sec p = v := ⟨_, rfl⟩
      have HSL2 := Aside0.mk hsl
      have HSI := Aside0.mk (show IsD sl by rw [← hsl]; exact seal_is _ _)
      have HDs := Aside0.mk (digest_facts HSI.out.1)
      clear en mn hc hp hps hsl
      go_wp2_with (fail)
      have HKB := Aside0.mk HK.out.below
      have HZ1 := Aside0.mk (show w1.heap.size ≤ wr.drew.heap.size by obtain ⟨g, cg, hv, _, hlt, _⟩ := Kd.R_form HR.out (by rw [HPL.out]; omega); have hok : w1.heap.size ≤ g := HR.out.1 g (by rw [hv]; rfl); exact Nat.le_of_lt (Nat.lt_of_le_of_lt hok hlt))
      refine start_ (n := 19) (S := fun w' => Below w.heap.size w w') (ds := []) #[false, false, false, false, false, false, false, false, false, false, false, false, false, false, false, false, false, false, false] (by kernel_rfl) rfl rfl (below_drew HKB.out) (fun hHeld => ?_)
      refine pure_ (i := 0) (N := some 85) (v := ?v35) (a' := ?a35) #[true, false, false, false, false, false, false, false, false, false, false, false, false, false, false, false, false, false, false] rfl rfl (by kernel_rfl) (fun _ _ _ h => h) (Or.inl ⟨by rfl, ?hy35⟩) ?ha35 ?hh35
      case hy35 =>
        intro w'
        go_simp
        with_reducible rfl
      case ha35 =>
        simp only [Act.put, List.setIfInBounds_toArray, List.set_cons_zero, List.set_cons_succ]
        rfl
      refine pure_ (i := 1) (N := some 86) (v := ?v36) (a' := ?a36) #[true, true, false, false, false, false, false, false, false, false, false, false, false, false, false, false, false, false, false] rfl rfl (by kernel_rfl) (fun _ _ _ h => h) (Or.inl ⟨by rfl, ?hy36⟩) ?ha36 ?hh36
      case hy36 =>
        intro w'
        go_simp
        with_reducible rfl
      case ha36 =>
        simp only [Act.put, List.setIfInBounds_toArray, List.set_cons_zero, List.set_cons_succ]
        rfl
      refine pure_ (i := 2) (N := some 87) (v := ?v37) (a' := ?a37) #[true, true, true, false, false, false, false, false, false, false, false, false, false, false, false, false, false, false, false] rfl rfl (by kernel_rfl) (fun _ _ _ h => h) (Or.inl ⟨by rfl, ?hy37⟩) ?ha37 ?hh37
      case hy37 =>
        intro w'
        go_simp
        with_reducible rfl
      case ha37 =>
        simp only [Act.put, List.setIfInBounds_toArray, List.set_cons_zero, List.set_cons_succ]
        rfl
      refine pure_ (i := 3) (N := some 88) (v := (.pointer (some (ad.add (i * 33))))) (a' := ?a38) #[true, true, true, true, false, false, false, false, false, false, false, false, false, false, false, false, false, false, false] rfl rfl (by kernel_rfl) (fun _ _ _ h => h) (Or.inl ⟨by rfl, fun w' => idxP_run (.tmp 86) (.tmp 87) rfl ad sg.length c1 i rfl rfl HLT.out⟩) ?ha38 ?hh38
      case ha38 =>
        simp only [Act.put, List.setIfInBounds_toArray, List.set_cons_zero, List.set_cons_succ]
        rfl
      refine pure_ (i := 4) (N := some 89) (v := (.pointer (some (ad.add (i * 33))))) (a' := ?a39) #[true, true, true, true, true, false, false, false, false, false, false, false, false, false, false, false, false, false, false] rfl rfl (by kernel_rfl) (fun _ _ _ h => h) (Or.inl ⟨by rfl, fun w' => fld0_run (.tmp 88) rfl _ rfl⟩) ?ha39 ?hh39
      case ha39 =>
        simp only [Act.put, List.setIfInBounds_toArray, List.set_cons_zero, List.set_cons_succ]
        rfl
      refine take_ (i := 5) (N := some 90) (v := (.int .i64 p.1)) (a' := ?a40) #[true, true, true, true, true, true, false, false, false, false, false, false, false, false, false, false, false, false, false] rfl rfl (by kernel_rfl) (fun _ _ _ h => h) (Or.inl ⟨by rfl, fun w' s0 => loadI_run (.tmp 89) rfl _ rfl _ (pair_at (Kd.C_below H1.out s0) HP.out).1⟩) hHeld ?ha40 ?hh40
      case ha40 =>
        simp only [Act.put, List.setIfInBounds_toArray, List.set_cons_zero, List.set_cons_succ]
        rfl
      refine pure_ (i := 7) (N := some 92) (v := ?v41) (a' := ?a41) #[true, true, true, true, true, true, false, true, false, false, false, false, false, false, false, false, false, false, false] rfl rfl (by kernel_rfl) (fun _ _ _ h => h) (Or.inl ⟨by rfl, ?hy41⟩) ?ha41 ?hh41
      case hy41 =>
        intro w'
        go_simp
        with_reducible rfl
      case ha41 =>
        simp only [Act.put, List.setIfInBounds_toArray, List.set_cons_zero, List.set_cons_succ]
        rfl
      refine pure_ (i := 8) (N := some 93) (v := ?v42) (a' := ?a42) #[true, true, true, true, true, true, false, true, true, false, false, false, false, false, false, false, false, false, false] rfl rfl (by kernel_rfl) (fun _ _ _ h => h) (Or.inl ⟨by rfl, ?hy42⟩) ?ha42 ?hh42
      case hy42 =>
        intro w'
        go_simp
        with_reducible rfl
      case ha42 =>
        simp only [Act.put, List.setIfInBounds_toArray, List.set_cons_zero, List.set_cons_succ]
        rfl
      refine pure_ (i := 9) (N := some 94) (v := (.pointer (some (ad.add (i * 33))))) (a' := ?a43) #[true, true, true, true, true, true, false, true, true, true, false, false, false, false, false, false, false, false, false] rfl rfl (by kernel_rfl) (fun _ _ _ h => h) (Or.inl ⟨by rfl, fun w' => idxP_run (.tmp 92) (.tmp 93) rfl ad sg.length c1 i rfl rfl HLT.out⟩) ?ha43 ?hh43
      case ha43 =>
        simp only [Act.put, List.setIfInBounds_toArray, List.set_cons_zero, List.set_cons_succ]
        rfl
      refine pure_ (i := 10) (N := some 95) (v := (.pointer (some (ad.add (i * 33 + 1))))) (a' := ?a44) #[true, true, true, true, true, true, false, true, true, true, true, false, false, false, false, false, false, false, false] rfl rfl (by kernel_rfl) (fun _ _ _ h => h) (Or.inl ⟨by rfl, fun w' => fld1_run (.tmp 94) rfl ad i rfl⟩) ?ha44 ?hh44
      case ha44 =>
        simp only [Act.put, List.setIfInBounds_toArray, List.set_cons_zero, List.set_cons_succ]
        rfl
      refine take_ (i := 11) (N := some 96) (v := (.agg (nums .u8 p.2).toArray)) (a' := ?a45) #[true, true, true, true, true, true, false, true, true, true, true, true, false, false, false, false, false, false, false] rfl rfl (by kernel_rfl) (fun _ _ _ h => h) (Or.inl ⟨by rfl, fun w' s0 => loadD_run (.tmp 95) rfl _ rfl _ (pair_at (Kd.C_below H1.out s0) HP.out).2.2 (pair_at (Kd.C_below H1.out s0) HP.out).2.1⟩) hHeld ?ha45 ?hh45
      case ha45 =>
        simp only [Act.put, List.setIfInBounds_toArray, List.set_cons_zero, List.set_cons_succ]
        rfl
      have keys_rj := Aside0.mk (HK.out.drew)
      have bel_rj := Aside0.mk (below_drew HKB.out)
      have ra_rj := Aside0.mk (Kd.R_drew HR.out)
      have rs_rj := Aside0.mk (Kd.R_drew HSL.out)
      clear hHeld
      refine join_ 2 #[true, true, true, true, true, true, true, true, true, true, true, true, true, true, true, true, true, false, false] (fun b20 : Nat => [(91, .string (nm p.1)), (97, .tuple #[.agg (nums .u8 sl).toArray, .int .i64 0]), (20, .pointer (some ⟨b20, 0, none⟩)), (84, .tuple #[.agg (nums .u8 sl).toArray, .int .i64 0]), (98, .agg (nums .u8 sl).toArray), (99, .int .i64 0)]) (fun b20 w' => Keys (y.signedWith (nm p.1) p.2 sl) w w' sec (ps ++ [(p.1, p.2)]) ∧ Below w.heap.size w w' ∧ kP.R 35 w' w.heap.size (fun k => w1.heap.size ≤ k ∧ k ≠ b20) u17 ps ∧ kD.R 27 w' w.heap.size (fun k => w1.heap.size ≤ k ∧ k ≠ b20) u18 (ps.map (sealf sec)) ∧ w'.heap[b20]? = some (.cells (nums .u8 zeroD).toArray 27 (0, 0)) ∧ w1.heap.size ≤ b20) ?hcontrj (fun hJ => ?hwaysrj)
      case hwaysrj =>
        refine two_ (i := 6) (j := 16) (Ni := some 91) (Nj := some 20) #[true, true, true, true, true, true, true, true, true, true, true, true, false, false, false, false, false, false, false] #[true, true, true, true, true, true, false, true, true, true, true, true, false, false, false, false, true, false, false] rfl rfl rfl rfl (by kernel_rfl) (by decide) (by decide) (fun K hK => ?way1rj) (fun K hK => ?way2rj)
        case way1rj =>
          refine goes_ Tryd.func9 (by kernel_rfl) rfl #[.int .i64 p.1] (by rfl) rfl rfl (by simp only [List.map_toArray, List.map_cons, List.map_nil]; rfl) ?_
          refine (name_calls p.1 _).mono ?_
          rintro e wnrj1 ⟨rfl, lnrj1⟩
          refine ⟨_, rfl, hK.out _ _ (below_step bel_rj.out lnrj1) (fun _ => ?_)⟩
          clear hK K
          refine two_ (i := 12) (j := 16) (Ni := some 97) (Nj := some 20) #[true, true, true, true, true, true, true, true, true, true, true, true, true, false, false, false, false, false, false] #[true, true, true, true, true, true, true, true, true, true, true, true, false, false, false, false, true, false, false] rfl rfl rfl rfl (by kernel_rfl) (by decide) (by decide) (fun K hK => ?way3rj) (fun K hK => ?way4rj)
          case way3rj =>
            refine goes_ Tryd.func11 (by kernel_rfl) rfl #[.pointer (some ⟨x.b, 0, none⟩), .string (nm p.1), .agg (nums .u8 p.2).toArray] (by rfl) rfl rfl (by simp only [List.map_toArray, List.map_cons, List.map_nil]; rfl) ?_
            refine ((keys_rj.out.low lnrj1).signB HY.out.1 HF.out HL.out p.1 p.2 sl HSL2.out HPD.out (by rw [HPL.out]; have := HI.out; omega)).mono ?_
            rintro e wsrj2 ⟨rfl, ksrj2, hsrj2⟩
            refine ⟨_, rfl, hK.out _ _ (hsrj2.below) (fun _ => ?_)⟩
            clear hK K
            refine pure_ (i := 13) (N := some 84) (v := ?v46) (a' := ?a46) #[true, true, true, true, true, true, true, true, true, true, true, true, true, true, false, false, false, false, false] rfl rfl (by kernel_rfl) (fun _ _ _ h => h) (Or.inl ⟨by rfl, ?hy46⟩) ?ha46 ?hh46
            case hy46 =>
              intro w'
              go_simp
              with_reducible rfl
            case ha46 =>
              simp only [Act.put, List.setIfInBounds_toArray, List.set_cons_zero, List.set_cons_succ]
              rfl
            refine pure_ (i := 14) (N := some 98) (v := ?v47) (a' := ?a47) #[true, true, true, true, true, true, true, true, true, true, true, true, true, true, true, false, false, false, false] rfl rfl (by kernel_rfl) (fun _ _ _ h => h) (Or.inl ⟨by rfl, ?hy47⟩) ?ha47 ?hh47
            case hy47 =>
              intro w'
              go_simp
              with_reducible rfl
            case ha47 =>
              simp only [Act.put, List.setIfInBounds_toArray, List.set_cons_zero, List.set_cons_succ]
              rfl
            refine pure_ (i := 15) (N := some 99) (v := ?v48) (a' := ?a48) #[true, true, true, true, true, true, true, true, true, true, true, true, true, true, true, true, false, false, false] rfl rfl (by kernel_rfl) (fun _ _ _ h => h) (Or.inl ⟨by rfl, ?hy48⟩) ?ha48 ?hh48
            case hy48 =>
              intro w'
              go_simp
              with_reducible rfl
            case ha48 =>
              simp only [Act.put, List.setIfInBounds_toArray, List.set_cons_zero, List.set_cons_succ]
              rfl
            refine one_ (i := 16) (N := some 20) #[true, true, true, true, true, true, true, true, true, true, true, true, true, true, true, true, true, false, false] rfl rfl (by kernel_rfl) (by decide) (fun K hK => ?_)
            refine box_step (by rfl) (N := 20) rfl (cs := (nums .u8 zeroD).toArray) (t := 27) (by first | (go_simp; done) | (go_simp; rfl)) ?_
            intro b20 b20e warj3 b20b larj3
            refine hK.out _ _ (below_step (hsrj2.below) larj3) (fun _ => ?_)
            clear hK K
            have h := hJ b20 warj3 ⟨(hsrj2.low larj3), (below_step (hsrj2.below) larj3), (Kd.R_below (Kd.R_elderB (Kd.R_keep (Kd.R_below ra_rj.out lnrj1) ksrj2 (fun k hk => by have h1 := HY.out.2.2.2.1; have h2 : w1.heap.size ≤ k := hk; omega)) b20 (Nat.le_of_eq b20e.symm)) larj3), (Kd.R_below (Kd.R_elderB (Kd.R_keep (Kd.R_below rs_rj.out lnrj1) ksrj2 (fun k hk => by have h1 := HY.out.2.2.2.1; have h2 : w1.heap.size ≤ k := hk; omega)) b20 (Nat.le_of_eq b20e.symm)) larj3), b20b, by have z1 := lnrj1.size; have z2 := ksrj2.1; have z3 := larj3.size; have z0 := HZ1.out; omega⟩
            simp only [putAll, Act.put, List.setIfInBounds_toArray, List.set_cons_zero, List.set_cons_succ] at h ⊢
            exact h
          case way4rj =>
            refine box_step (by rfl) (N := 20) rfl (cs := (nums .u8 zeroD).toArray) (t := 27) (by first | (go_simp; done) | (go_simp; rfl)) ?_
            intro b20 b20e warj4 b20b larj4
            refine hK.out _ _ (below_step (below_step bel_rj.out lnrj1) larj4) (fun _ => ?_)
            clear hK K
            refine one_ (i := 12) (N := some 97) #[true, true, true, true, true, true, true, true, true, true, true, true, true, false, false, false, true, false, false] rfl rfl (by kernel_rfl) (by decide) (fun K hK => ?_)
            refine goes_ Tryd.func11 (by kernel_rfl) rfl #[.pointer (some ⟨x.b, 0, none⟩), .string (nm p.1), .agg (nums .u8 p.2).toArray] (by rfl) rfl rfl (by simp only [List.map_toArray, List.map_cons, List.map_nil]; rfl) ?_
            refine (((keys_rj.out.low lnrj1).low larj4).signB HY.out.1 HF.out HL.out p.1 p.2 sl HSL2.out HPD.out (by rw [HPL.out]; have := HI.out; omega)).mono ?_
            rintro e wsrj5 ⟨rfl, ksrj5, hsrj5⟩
            refine ⟨_, rfl, hK.out _ _ (hsrj5.below) (fun _ => ?_)⟩
            clear hK K
            refine pure_ (i := 13) (N := some 84) (v := ?v49) (a' := ?a49) #[true, true, true, true, true, true, true, true, true, true, true, true, true, true, false, false, true, false, false] rfl rfl (by kernel_rfl) (fun _ _ _ h => h) (Or.inl ⟨by rfl, ?hy49⟩) ?ha49 ?hh49
            case hy49 =>
              intro w'
              go_simp
              with_reducible rfl
            case ha49 =>
              simp only [Act.put, List.setIfInBounds_toArray, List.set_cons_zero, List.set_cons_succ]
              rfl
            refine pure_ (i := 14) (N := some 98) (v := ?v50) (a' := ?a50) #[true, true, true, true, true, true, true, true, true, true, true, true, true, true, true, false, true, false, false] rfl rfl (by kernel_rfl) (fun _ _ _ h => h) (Or.inl ⟨by rfl, ?hy50⟩) ?ha50 ?hh50
            case hy50 =>
              intro w'
              go_simp
              with_reducible rfl
            case ha50 =>
              simp only [Act.put, List.setIfInBounds_toArray, List.set_cons_zero, List.set_cons_succ]
              rfl
            refine pure_ (i := 15) (N := some 99) (v := ?v51) (a' := ?a51) #[true, true, true, true, true, true, true, true, true, true, true, true, true, true, true, true, true, false, false] rfl rfl (by kernel_rfl) (fun _ _ _ h => h) (Or.inl ⟨by rfl, ?hy51⟩) ?ha51 ?hh51
            case hy51 =>
              intro w'
              go_simp
              with_reducible rfl
            case ha51 =>
              simp only [Act.put, List.setIfInBounds_toArray, List.set_cons_zero, List.set_cons_succ]
              rfl
            have h := hJ b20 wsrj5 ⟨hsrj5, (hsrj5.below), (Kd.R_keep (Kd.R_below (Kd.R_elderB (Kd.R_below ra_rj.out lnrj1) b20 (Nat.le_of_eq b20e.symm)) larj4) ksrj5 (fun k hk => by have h1 := HY.out.2.2.2.1; have h2 : w1.heap.size ≤ k := hk.1; omega)), (Kd.R_keep (Kd.R_below (Kd.R_elderB (Kd.R_below rs_rj.out lnrj1) b20 (Nat.le_of_eq b20e.symm)) larj4) ksrj5 (fun k hk => by have h1 := HY.out.2.2.2.1; have h2 : w1.heap.size ≤ k := hk.1; omega)), (keep_blk ksrj5 ((keys_rj.out.low lnrj1).low larj4).at_.signed b20b), by have z1 := lnrj1.size; have z0 := HZ1.out; omega⟩
            simp only [putAll, Act.put, List.setIfInBounds_toArray, List.set_cons_zero, List.set_cons_succ] at h ⊢
            exact h
        case way2rj =>
          refine box_step (by rfl) (N := 20) rfl (cs := (nums .u8 zeroD).toArray) (t := 27) (by first | (go_simp; done) | (go_simp; rfl)) ?_
          intro b20 b20e warj6 b20b larj6
          refine hK.out _ _ (below_step bel_rj.out larj6) (fun _ => ?_)
          clear hK K
          refine one_ (i := 6) (N := some 91) #[true, true, true, true, true, true, true, true, true, true, true, true, false, false, false, false, true, false, false] rfl rfl (by kernel_rfl) (by decide) (fun K hK => ?_)
          refine goes_ Tryd.func9 (by kernel_rfl) rfl #[.int .i64 p.1] (by rfl) rfl rfl (by simp only [List.map_toArray, List.map_cons, List.map_nil]; rfl) ?_
          refine (name_calls p.1 _).mono ?_
          rintro e wnrj7 ⟨rfl, lnrj7⟩
          refine ⟨_, rfl, hK.out _ _ (below_step (below_step bel_rj.out larj6) lnrj7) (fun _ => ?_)⟩
          clear hK K
          refine one_ (i := 12) (N := some 97) #[true, true, true, true, true, true, true, true, true, true, true, true, true, false, false, false, true, false, false] rfl rfl (by kernel_rfl) (by decide) (fun K hK => ?_)
          refine goes_ Tryd.func11 (by kernel_rfl) rfl #[.pointer (some ⟨x.b, 0, none⟩), .string (nm p.1), .agg (nums .u8 p.2).toArray] (by rfl) rfl rfl (by simp only [List.map_toArray, List.map_cons, List.map_nil]; rfl) ?_
          refine (((keys_rj.out.low larj6).low lnrj7).signB HY.out.1 HF.out HL.out p.1 p.2 sl HSL2.out HPD.out (by rw [HPL.out]; have := HI.out; omega)).mono ?_
          rintro e wsrj8 ⟨rfl, ksrj8, hsrj8⟩
          refine ⟨_, rfl, hK.out _ _ (hsrj8.below) (fun _ => ?_)⟩
          clear hK K
          refine pure_ (i := 13) (N := some 84) (v := ?v52) (a' := ?a52) #[true, true, true, true, true, true, true, true, true, true, true, true, true, true, false, false, true, false, false] rfl rfl (by kernel_rfl) (fun _ _ _ h => h) (Or.inl ⟨by rfl, ?hy52⟩) ?ha52 ?hh52
          case hy52 =>
            intro w'
            go_simp
            with_reducible rfl
          case ha52 =>
            simp only [Act.put, List.setIfInBounds_toArray, List.set_cons_zero, List.set_cons_succ]
            rfl
          refine pure_ (i := 14) (N := some 98) (v := ?v53) (a' := ?a53) #[true, true, true, true, true, true, true, true, true, true, true, true, true, true, true, false, true, false, false] rfl rfl (by kernel_rfl) (fun _ _ _ h => h) (Or.inl ⟨by rfl, ?hy53⟩) ?ha53 ?hh53
          case hy53 =>
            intro w'
            go_simp
            with_reducible rfl
          case ha53 =>
            simp only [Act.put, List.setIfInBounds_toArray, List.set_cons_zero, List.set_cons_succ]
            rfl
          refine pure_ (i := 15) (N := some 99) (v := ?v54) (a' := ?a54) #[true, true, true, true, true, true, true, true, true, true, true, true, true, true, true, true, true, false, false] rfl rfl (by kernel_rfl) (fun _ _ _ h => h) (Or.inl ⟨by rfl, ?hy54⟩) ?ha54 ?hh54
          case hy54 =>
            intro w'
            go_simp
            with_reducible rfl
          case ha54 =>
            simp only [Act.put, List.setIfInBounds_toArray, List.set_cons_zero, List.set_cons_succ]
            rfl
          have h := hJ b20 wsrj8 ⟨hsrj8, (hsrj8.below), (Kd.R_keep (Kd.R_below (Kd.R_below (Kd.R_elderB ra_rj.out b20 (Nat.le_of_eq b20e.symm)) larj6) lnrj7) ksrj8 (fun k hk => by have h1 := HY.out.2.2.2.1; have h2 : w1.heap.size ≤ k := hk.1; omega)), (Kd.R_keep (Kd.R_below (Kd.R_below (Kd.R_elderB rs_rj.out b20 (Nat.le_of_eq b20e.symm)) larj6) lnrj7) ksrj8 (fun k hk => by have h1 := HY.out.2.2.2.1; have h2 : w1.heap.size ≤ k := hk.1; omega)), (keep_blk ksrj8 ((keys_rj.out.low larj6).low lnrj7).at_.signed (blk_below b20b lnrj7)), by have z0 := HZ1.out; omega⟩
          simp only [putAll, Act.put, List.setIfInBounds_toArray, List.set_cons_zero, List.set_cons_succ] at h ⊢
          exact h
      intro b20 wjrj hFrj
      obtain ⟨hkeysrj, hbelrj, hrarj, hrsrj, hbzrj, hbsrj⟩ := hFrj
      clear keys_rj bel_rj ra_rj rs_rj
      simp only [putAll, Act.put, List.setIfInBounds_toArray, List.set_cons_zero, List.set_cons_succ]
      refine one_ (i := 17) (N := none) #[true, true, true, true, true, true, true, true, true, true, true, true, true, true, true, true, true, true, false] rfl rfl (by kernel_rfl) (by decide) (fun K hK => ?_)
      rw [if_pos (by rfl)]
      refine wp_store_row 27 (.tmp 20) (.tmp 98) rfl b20 (nums .u8 sl).toArray rfl rfl 27 _ hbzrj HDs.out.1 (by rw [HDs.out.2.1]; rfl) HDs.out.2.2 ?_
      have HB20 := Aside0.mk hbsrj
      have K20 := Aside0.mk (hkeysrj.row (n := w1.heap.size) HY.out.2 HB20.out (by have := HB20.out; have := HNW.out; omega) (nums .u8 sl).toArray)
      have B20 := Aside0.mk (setRow_heap _ b20 _ (nums .u8 sl).toArray _ _ hbzrj)
      have RA20 := Aside0.mk (Kd.R_mono (Kd.R_keep hrarj (keep_row (KeepBut.refl _ b20 none) (nums .u8 sl).toArray) (fun k hk => hk.2)) (fun k hk => hk.1))
      have RS20 := Aside0.mk (Kd.R_mono (Kd.R_keep hrsrj (keep_row (KeepBut.refl _ b20 none) (nums .u8 sl).toArray) (fun k hk => hk.2)) (fun k hk => hk.1))
      have HKB20 := Aside0.mk K20.out.below
      obtain ⟨z, hz⟩ : ∃ z, (y.signedWith (nm p.1) p.2 sl) = z := ⟨_, rfl⟩
      have HZ := Aside0.mk (show z.b = x.b ∧ z.under w1.heap.size by rw [← hz]; exact HY.out)
      rw [hz] at K20
      clear hkeysrj hbelrj hrarj hrsrj hbzrj hbsrj hz
      generalize wjrj.setRow b20 (nums .u8 sl).toArray = w20 at K20 B20 RA20 RS20 HKB20 ⊢
      refine hK.out _ _ (HKB20.out) (fun _ => ?_)
      clear hK K
      refine norm_ (a' := ?an17) ?hn17 ?hm17
      case hn17 =>
        show Act.put _ none _ = _
        simp only [Act.put]
        rfl
      refine pure_ (i := 18) (N := some 21) (v := ?v55) (a' := ?a55) #[true, true, true, true, true, true, true, true, true, true, true, true, true, true, true, true, true, true, true] rfl rfl (by kernel_rfl) (fun _ _ _ h => h) (Or.inl ⟨by rfl, ?hy55⟩) ?ha55 ?hh55
      case hy55 =>
        intro w'
        go_simp
        with_reducible rfl
      case ha55 =>
        simp only [Act.put, List.setIfInBounds_toArray, List.set_cons_zero, List.set_cons_succ]
        rfl
      refine done_ (by kernel_rfl) ?_
      go_wp2_with (fail)
      refine start_ (n := 19) (S := fun w' => Keys z w w' sec (ps ++ [(p.1, p.2)]) ∧ Below w.heap.size w w' ∧ kP.R 35 w' w.heap.size (fun k => w1.heap.size ≤ k) u17 ps ∧ kD.R 27 w' w.heap.size (fun k => w1.heap.size ≤ k) u18 (ps.map (sealf sec)) ∧ w'.heap[b20]? = some (.cells (nums .u8 sl).toArray 27 (0, 0))) (ds := []) #[false, false, false, false, false, false, false, false, false, false, false, false, false, false, false, false, false, false, false] (by kernel_rfl) rfl rfl ⟨K20.out.drew, below_drew HKB20.out, Kd.R_drew RA20.out, Kd.R_drew RS20.out, blk_drew B20.out⟩ (fun hHeld => ?_)
      refine pure_ (i := 0) (N := some 100) (v := ?v56) (a' := ?a56) #[true, false, false, false, false, false, false, false, false, false, false, false, false, false, false, false, false, false, false] rfl rfl (by kernel_rfl) (fun _ _ _ h => h) (Or.inl ⟨by rfl, ?hy56⟩) ?ha56 ?hh56
      case hy56 =>
        intro w'
        go_simp
        with_reducible rfl
      case ha56 =>
        simp only [Act.put, List.setIfInBounds_toArray, List.set_cons_zero, List.set_cons_succ]
        rfl
      refine pure_ (i := 1) (N := some 101) (v := ?v57) (a' := ?a57) #[true, true, false, false, false, false, false, false, false, false, false, false, false, false, false, false, false, false, false] rfl rfl (by kernel_rfl) (fun _ _ _ h => h) (Or.inl ⟨by rfl, ?hy57⟩) ?ha57 ?hh57
      case hy57 =>
        intro w'
        go_simp
        with_reducible rfl
      case ha57 =>
        simp only [Act.put, List.setIfInBounds_toArray, List.set_cons_zero, List.set_cons_succ]
        rfl
      refine pure_ (i := 2) (N := some 102) (v := ?v58) (a' := ?a58) #[true, true, true, false, false, false, false, false, false, false, false, false, false, false, false, false, false, false, false] rfl rfl (by kernel_rfl) (fun _ _ _ h => h) (Or.inl ⟨by rfl, ?hy58⟩) ?ha58 ?hh58
      case hy58 =>
        intro w'
        go_simp
        with_reducible rfl
      case ha58 =>
        simp only [Act.put, List.setIfInBounds_toArray, List.set_cons_zero, List.set_cons_succ]
        rfl
      refine pure_ (i := 3) (N := some 103) (v := ?v59) (a' := ?a59) #[true, true, true, true, false, false, false, false, false, false, false, false, false, false, false, false, false, false, false] rfl rfl (by kernel_rfl) (fun _ _ _ h => h) (Or.inl ⟨by rfl, ?hy59⟩) ?ha59 ?hh59
      case hy59 =>
        intro w'
        go_simp
        with_reducible rfl
      case ha59 =>
        simp only [Act.put, List.setIfInBounds_toArray, List.set_cons_zero, List.set_cons_succ]
        rfl
      refine pure_ (i := 4) (N := some 104) (v := ?v60) (a' := ?a60) #[true, true, true, true, true, false, false, false, false, false, false, false, false, false, false, false, false, false, false] rfl rfl (by kernel_rfl) (fun _ _ _ h => h) (Or.inl ⟨by rfl, ?hy60⟩) ?ha60 ?hh60
      case hy60 =>
        intro w'
        go_simp
        with_reducible rfl
      case ha60 =>
        simp only [Act.put, List.setIfInBounds_toArray, List.set_cons_zero, List.set_cons_succ]
        rfl
      refine pure_ (i := 5) (N := some 105) (v := ?v61) (a' := ?a61) #[true, true, true, true, true, true, false, false, false, false, false, false, false, false, false, false, false, false, false] rfl rfl (by kernel_rfl) (fun _ _ _ h => h) (Or.inl ⟨by rfl, ?hy61⟩) ?ha61 ?hh61
      case hy61 =>
        intro w'
        go_simp
        with_reducible rfl
      case ha61 =>
        simp only [Act.put, List.setIfInBounds_toArray, List.set_cons_zero, List.set_cons_succ]
        rfl
      refine pure_ (i := 6) (N := some 106) (v := (.pointer (some (ad.add (i * 33))))) (a' := ?a62) #[true, true, true, true, true, true, true, false, false, false, false, false, false, false, false, false, false, false, false] rfl rfl (by kernel_rfl) (fun _ _ _ h => h) (Or.inl ⟨by rfl, fun w' => idxP_run (.tmp 104) (.tmp 105) rfl ad sg.length c1 i rfl rfl HLT.out⟩) ?ha62 ?hh62
      case ha62 =>
        simp only [Act.put, List.setIfInBounds_toArray, List.set_cons_zero, List.set_cons_succ]
        rfl
      refine pure_ (i := 7) (N := some 107) (v := (.pointer (some (ad.add (i * 33))))) (a' := ?a63) #[true, true, true, true, true, true, true, true, false, false, false, false, false, false, false, false, false, false, false] rfl rfl (by kernel_rfl) (fun _ _ _ h => h) (Or.inl ⟨by rfl, fun w' => fld0_run (.tmp 106) rfl _ rfl⟩) ?ha63 ?hh63
      case ha63 =>
        simp only [Act.put, List.setIfInBounds_toArray, List.set_cons_zero, List.set_cons_succ]
        rfl
      refine take_ (i := 8) (N := some 108) (v := (.int .i64 p.1)) (a' := ?a64) #[true, true, true, true, true, true, true, true, true, false, false, false, false, false, false, false, false, false, false] rfl rfl (by kernel_rfl) (fun _ _ _ h => h) (Or.inl ⟨by rfl, fun w' s0 => loadI_run (.tmp 107) rfl _ rfl _ (pair_at (Kd.C_below H1.out s0.2.1) HP.out).1⟩) hHeld ?ha64 ?hh64
      case ha64 =>
        simp only [Act.put, List.setIfInBounds_toArray, List.set_cons_zero, List.set_cons_succ]
        rfl
      refine pure_ (i := 10) (N := some 110) (v := ?v65) (a' := ?a65) #[true, true, true, true, true, true, true, true, true, false, true, false, false, false, false, false, false, false, false] rfl rfl (by kernel_rfl) (fun _ _ _ h => h) (Or.inl ⟨by rfl, ?hy65⟩) ?ha65 ?hh65
      case hy65 =>
        intro w'
        go_simp
        with_reducible rfl
      case ha65 =>
        simp only [Act.put, List.setIfInBounds_toArray, List.set_cons_zero, List.set_cons_succ]
        rfl
      refine pure_ (i := 11) (N := some 111) (v := ?v66) (a' := ?a66) #[true, true, true, true, true, true, true, true, true, false, true, true, false, false, false, false, false, false, false] rfl rfl (by kernel_rfl) (fun _ _ _ h => h) (Or.inl ⟨by rfl, ?hy66⟩) ?ha66 ?hh66
      case hy66 =>
        intro w'
        go_simp
        with_reducible rfl
      case ha66 =>
        simp only [Act.put, List.setIfInBounds_toArray, List.set_cons_zero, List.set_cons_succ]
        rfl
      refine pure_ (i := 12) (N := some 112) (v := (.pointer (some (ad.add (i * 33))))) (a' := ?a67) #[true, true, true, true, true, true, true, true, true, false, true, true, true, false, false, false, false, false, false] rfl rfl (by kernel_rfl) (fun _ _ _ h => h) (Or.inl ⟨by rfl, fun w' => idxP_run (.tmp 110) (.tmp 111) rfl ad sg.length c1 i rfl rfl HLT.out⟩) ?ha67 ?hh67
      case ha67 =>
        simp only [Act.put, List.setIfInBounds_toArray, List.set_cons_zero, List.set_cons_succ]
        rfl
      refine pure_ (i := 13) (N := some 113) (v := (.pointer (some (ad.add (i * 33 + 1))))) (a' := ?a68) #[true, true, true, true, true, true, true, true, true, false, true, true, true, true, false, false, false, false, false] rfl rfl (by kernel_rfl) (fun _ _ _ h => h) (Or.inl ⟨by rfl, fun w' => fld1_run (.tmp 112) rfl ad i rfl⟩) ?ha68 ?hh68
      case ha68 =>
        simp only [Act.put, List.setIfInBounds_toArray, List.set_cons_zero, List.set_cons_succ]
        rfl
      refine take_ (i := 14) (N := some 114) (v := (.agg (nums .u8 p.2).toArray)) (a' := ?a69) #[true, true, true, true, true, true, true, true, true, false, true, true, true, true, true, false, false, false, false] rfl rfl (by kernel_rfl) (fun _ _ _ h => h) (Or.inl ⟨by rfl, fun w' s0 => loadD_run (.tmp 113) rfl _ rfl _ (pair_at (Kd.C_below H1.out s0.2.1) HP.out).2.2 (pair_at (Kd.C_below H1.out s0.2.1) HP.out).2.1⟩) hHeld ?ha69 ?hh69
      case ha69 =>
        simp only [Act.put, List.setIfInBounds_toArray, List.set_cons_zero, List.set_cons_succ]
        rfl
      refine take_ (i := 15) (N := some 115) (v := (.agg (nums .u8 sl).toArray)) (a' := ?a70) #[true, true, true, true, true, true, true, true, true, false, true, true, true, true, true, true, false, false, false] rfl rfl (by kernel_rfl) (fun _ _ _ h => h) (Or.inl ⟨by rfl, fun w' s0 => loadB_run (.tmp 20) rfl b20 rfl _ HSI.out.1 s0.2.2.2.2⟩) hHeld ?ha70 ?hh70
      case ha70 =>
        simp only [Act.put, List.setIfInBounds_toArray, List.set_cons_zero, List.set_cons_succ]
        rfl
      refine one_ (i := 9) (N := some 109) #[true, true, true, true, true, true, true, true, true, true, true, true, true, true, true, true, false, false, false] rfl rfl (by kernel_rfl) (by decide) (fun K hK => ?_)
      refine goes_ Tryd.func9 (by kernel_rfl) rfl #[.int .i64 p.1] (by rfl) rfl rfl (by simp only [List.map_toArray, List.map_cons, List.map_nil]; rfl) ?_
      refine (name_calls p.1 _).mono ?_
      rintro e wn201 ⟨rfl, ln201⟩
      refine ⟨_, rfl, hK.out _ _ ⟨hHeld.1.low ln201, below_step hHeld.2.1 ln201, Kd.R_below hHeld.2.2.1 ln201, Kd.R_below hHeld.2.2.2.1 ln201, blk_below hHeld.2.2.2.2 ln201⟩ (fun hHeld => ?_)⟩
      clear hK K ln201
      refine norm_ (a' := ?a71) ?ha71 ?hh71
      case ha71 =>
        show Act.put _ (some 109) _ = _
        simp only [Act.put, List.setIfInBounds_toArray, List.set_cons_zero, List.set_cons_succ]
        rfl
      refine one_ (i := 16) (N := some 116) #[true, true, true, true, true, true, true, true, true, true, true, true, true, true, true, true, true, false, false] rfl rfl (by kernel_rfl) (by decide) (fun K hK => ?_)
      refine goes_ Tryd.func10 (by kernel_rfl) rfl #[.pointer (some ⟨x.b, 0, none⟩), .string (nm p.1), .agg (nums .u8 p.2).toArray, .agg (nums .u8 sl).toArray] (by rfl) rfl rfl (by simp only [List.map_toArray, List.map_cons, List.map_nil]; rfl) ?_
      refine (show Calls Tryd.prog 10 #[.pointer (some ⟨x.b, 0, none⟩), .string (nm p.1), .agg (nums .u8 p.2).toArray, .agg (nums .u8 sl).toArray] _ _ from hHeld.1.verifyB HZ.out.1 p.1 p.2 sl HPD.out HSI.out).mono ?_
      rintro e wv202 ⟨rfl, lv202⟩
      rw [show decide (sf sec (ps ++ [(p.1, p.2)]) (nm p.1, p.2) = some sl) = true from (by rw [sf_mem sec (p := (p.1, p.2)) (List.mem_append_right _ (List.mem_singleton.2 rfl)), HSL2.out]; exact decide_eq_true rfl)]
      refine ⟨_, rfl, hK.out _ _ ⟨hHeld.1.low lv202, below_step hHeld.2.1 lv202, Kd.R_below hHeld.2.2.1 lv202, Kd.R_below hHeld.2.2.2.1 lv202, blk_below hHeld.2.2.2.2 lv202⟩ (fun hHeld => ?_)⟩
      clear hK K lv202
      refine norm_ (a' := ?a72) ?ha72 ?hh72
      case ha72 =>
        show Act.put _ (some 116) _ = _
        simp only [Act.put, List.setIfInBounds_toArray, List.set_cons_zero, List.set_cons_succ]
        rfl
      refine pure_ (i := 17) (N := some 117) (v := ?v73) (a' := ?a73) #[true, true, true, true, true, true, true, true, true, true, true, true, true, true, true, true, true, true, false] rfl rfl (by kernel_rfl) (fun _ _ _ h => h) (Or.inl ⟨by rfl, ?hy73⟩) ?ha73 ?hh73
      case hy73 =>
        intro w'
        go_simp
        with_reducible rfl
      case ha73 =>
        simp only [Act.put, List.setIfInBounds_toArray, List.set_cons_zero, List.set_cons_succ]
        rfl
      refine pure_ (i := 18) (N := some 118) (v := ?v74) (a' := ?a74) #[true, true, true, true, true, true, true, true, true, true, true, true, true, true, true, true, true, true, true] rfl rfl (by kernel_rfl) (fun _ _ _ h => h) (Or.inl ⟨by rfl, ?hy74⟩) ?ha74 ?hh74
      case hy74 =>
        intro w'
        go_simp
        with_reducible rfl
      case ha74 =>
        simp only [Act.put, List.setIfInBounds_toArray, List.set_cons_zero, List.set_cons_succ]
        rfl
      refine done_ (by kernel_rfl) ?_
      have keys_rk := Aside0.mk hHeld.1
      have bel_rk := Aside0.mk hHeld.2.1
      have ra_rk := Aside0.mk hHeld.2.2.1
      have rs_rk := Aside0.mk hHeld.2.2.2.1
      have b20_rk := Aside0.mk hHeld.2.2.2.2
      clear hHeld K20 HKB20 RA20 RS20 B20 c0 c1' c2' c3'
      go_wp2_with (first
        | ((with_reducible refine gate_dst (N := 122) rfl ?_); go_loud (refine Kd.event_run rfl (idxP_run (.tmp 120) (.tmp 121) rfl ad sg.length c1 i rfl rfl HLT.out) ?_))
        | ((with_reducible refine gate_dst (N := 123) rfl ?_); go_loud (refine Kd.event_run rfl (loadP_run (.tmp 122) rfl _ rfl p HPD.out.1 (pair_all (Kd.C_below H1.out bel_rk.out) HP.out)) ?_))
        | ((with_reducible refine gate_dst (N := 124) rfl ?_); go_loud (refine Kd.event_run rfl (bslP_run (.tmp 123) p HPD.out.1 rfl rfl) ?_))
        | ((with_reducible refine gate_builtin (b := .append) (xs := #[.tmp 119, .tmp 124]) rfl ?_); at_builtin; go_loud (refine Kd.R_append kP (w0 := w) w.heap.size rfl (.tmp 119) (.tmp 124) 23 35 (pairP (0, zeroD)) 40 rfl Tryd.underlying23 infoPr (by rfl) (by decide) (by decide) u17 ps p (.int .i64 p.1 :: nums .u8 p.2) (fun k => w1.heap.size ≤ k) (fun _ => False) rfl rfl (kP_M HPD.out.1) (fun k hk => hk.elim) (fun k hk => Nat.le_trans (by have := blk_lt b20_rk.out; have := HB20.out; omega) hk) ra_rk.out keys_rk.out.below keys_rk.out.below.size (by rw [HPL.out]; have := HI.out; omega) ?_; intro v17 w21 hr hb hg _; have RA21 := Aside0.mk hr; have K21 := Aside0.mk (keys_rk.out.grown HZ.out.2 hg (fun k hk => ⟨ra_rk.out.1 k hk, Kd.R_base ra_rk.out k hk⟩)); have RS21 := Aside0.mk (Kd.R_over rs_rk.out ra_rk.out (by intro q hq; have hq2 : q = 27 := List.mem_singleton.1 hq; rw [hq2]; decide) hg); have B21 := Aside0.mk (blk_grown b20_rk.out hg (Kd.R_ne ra_rk.out b20_rk.out (by decide))); clear hr hb hg))
        | ((with_reducible refine gate_dst (N := 127) rfl ?_); go_loud (refine Kd.event_run rfl (loadB_run (.tmp 20) rfl b20 rfl sl HSI.out.1 B21.out) ?_))
        | ((with_reducible refine gate_dst (N := 128) rfl ?_); go_loud (refine Kd.event_run rfl (bslD_run (.tmp 127) sl HSI.out.1 rfl rfl) ?_))
        | ((with_reducible refine gate_builtin (b := .append) (xs := #[.tmp 126, .tmp 128]) rfl ?_); at_builtin; go_loud (refine Kd.R_append kD (w0 := w) w.heap.size rfl (.tmp 126) (.tmp 128) 36 27 (digV zeroD) 32 rfl Tryd.underlying36 infoDg (by rfl) (by decide) (by decide) u18 (ps.map (sealf sec)) sl (nums .u8 sl) (fun k => w1.heap.size ≤ k) (fun _ => False) rfl rfl (kD_M HSI.out.1) (fun k hk => hk.elim) (fun k hk => Nat.le_trans (by have := blk_lt B21.out; have := HB20.out; omega) hk) RS21.out K21.out.below K21.out.below.size (by rw [List.length_map, HPL.out]; have := HI.out; omega) ?_; intro v18 w22 hr hb hg _; have RS22 := Aside0.mk hr; have K22 := Aside0.mk (K21.out.grown HZ.out.2 hg (fun k hk => ⟨RS21.out.1 k hk, Kd.R_base RS21.out k hk⟩)); have RA22 := Aside0.mk (Kd.R_over RA21.out RS21.out (by intro q hq; have hq2 : q = 35 := List.mem_singleton.1 hq; rw [hq2]; decide) hg); clear hr hb hg))
        )
      go_roundg (sg.length - (i + 1))
      case measure => clear hwn hvn; have := HI.out; have := HLT.out; omega
      case rel =>
        refine ⟨i + 1, z, _, _, ⟨by clear hwn hvn; have := HLT.out; omega, by clear hwn hvn; have := HC.out; omega, by clear hwn hvn; exact Nat.le_refl _⟩, by first | (with_reducible rfl) | (simp [hwn]; done) | go_num, rfl, rfl, ⟨by rw [HPN.out]; exact RA22.out⟩, ⟨by rw [HPN.out, List.map_append, List.map_singleton, HSL2.out]; exact RS22.out⟩, ⟨by rw [HPN.out]; exact K22.out⟩, HZ⟩
    · have hor : ¬ i < sg.length ∨ (i < sg.length ∧ ¬ i < 30) := by omega
      obtain ⟨ps, hps⟩ : ∃ ps, ((0, d0) : Pr) :: sg.take i = ps := ⟨_, rfl⟩
      have HPL := Aside0.mk (show 0 < ps.length ∧ ps.length ≤ 31 by rw [← hps, List.length_cons, List.length_take]; have := HI.out; omega)
      have HPI := Aside0.mk (show ∀ p ∈ ps, IsD p.2 by rw [← hps]; intro p hp; exact (List.mem_cons.1 hp).elim (fun e => by rw [e]; exact HD0.out) (fun hp => HS1.out p (List.mem_of_mem_take hp)))
      rw [hps] at HR HSL HK
      have HZW := Aside0.mk (show w1.heap.size ≤ wr.heap.size by obtain ⟨g, cg, hv, _, hlt, _⟩ := Kd.R_form HR.out HPL.out.1; have hok : w1.heap.size ≤ g := HR.out.1 g (by rw [hv]; rfl); exact Nat.le_of_lt (Nat.lt_of_le_of_lt hok hlt))
      clear hps hc
      refine wp_seq (wp_seq (wp_join [74, 75, 76, 77, 78, 79, 80, 81] (fun j w' => w' = wr ∧ j 81 = .bool false) ?contE ?waysE))
      case waysE =>
        rcases hor with h | ⟨h, h'⟩
        · have c0 : decide ((i : Int) < (sg.length : Int)) = false := decide_eq_false (by omega)
          have c1' : decide (i < sg.length) = false := decide_eq_false h
          clear h
          go_wp2
          simp only [List.map_cons, List.map_nil, putAll, Act.put, List.setIfInBounds_toArray, List.set_cons_zero, List.set_cons_succ]
        · have c0 : decide ((i : Int) < (sg.length : Int)) = true := decide_eq_true (by omega)
          have c1' : decide (i < sg.length) = true := decide_eq_true h
          have c2' : decide ((i : Int) < 30) = false := decide_eq_false (by omega)
          have c3' : decide (i < 30) = false := decide_eq_false h'
          clear h h'
          go_wp2
          simp only [List.map_cons, List.map_nil, putAll, Act.put, List.setIfInBounds_toArray, List.set_cons_zero, List.set_cons_succ]
      case contE =>
        rintro jE w' ⟨hw', h81⟩
        subst hw'
        clear hor
        simp only [List.map_cons, List.map_nil, putAll, Act.put, List.setIfInBounds_toArray, List.set_cons_zero, List.set_cons_succ]
        rw [h81]
        refine wp_cond_false rfl (wp_exit ?_)
        show KL _ _
        refine aL _ _ ?_
        clear aL h81
        obtain ⟨AS, cS, hu17⟩ := Kd.R_slice HR.out
        obtain ⟨AT, cT, hu18⟩ := Kd.R_slice HSL.out
        subst hu17
        subst hu18
        have HCP := Aside0.mk (Kd.R_reads' HR.out).2.2
        have HCS := Aside0.mk (Kd.R_reads' HSL.out).2.2
        obtain ⟨adS, hadS, _⟩ := HCP.out.2.2 HPL.out.1
        obtain ⟨adT, hadT, _⟩ := HCS.out.2.2 (by rw [List.length_map]; exact HPL.out.1)
        subst hadS
        subst hadT
        refine wp_seq (wp_join [130, 131, 132, 133, 134, 22] (fun j W => Aside0 (∃ (g : Option Addr) (c : Nat), j 22 = .slice g (ak ++ ps).length c ∧ kP.C W g (ak ++ ps).length (ak ++ ps) ∧ Below w'.heap.size w' W)) ?cont22 ?ways22)
        case ways22 =>
          go_wp2_with (first
            | ((with_reducible refine gate_builtin (b := .append) (xs := #[.tmp 130, .tmp 131]) rfl ?_); at_builtin; go_loud (refine Kd.R_append_rows kP (Rr := kP.K w') (w0 := w) w.heap.size rfl (.tmp 130) (.tmp 131) 23 35 (pairP (0, zeroD)) 40 rfl Tryd.underlying23 infoPr (by rfl) (by decide) (by decide) (.slice (some ⟨w'.heap.size, 0, none⟩) 0 0) [] ak A2 ak.length c2 (fun k => w'.heap.size ≤ k) (fun _ => False) rfl rfl (R_empty kP _ w' _ _ HK.out.below.size (Nat.le_refl _)) (Kd.C_below (H2.out) (below_alloc HK.out.below _)) ?hKM1 (fun k hk => hk.elim) (fun k hk => by simp at hk; omega) (below_alloc HK.out.below _) (by have := HK.out.below.size; simp; omega) (by have := HN2.out; simp; omega) ?_; (case hKM1 => intro q cs hq; obtain ⟨h1, h2⟩ := kP_K hq; rw [h2]; exact kP_M h1); intro v132 w30 hr hb hg hx; rw [List.nil_append] at hr; have R30 := Aside0.mk hr; have hgk : ∀ k, (Value.slice (some ⟨w'.heap.size, 0, none⟩) 0 0).ownBlock = some k → w'.heap.size ≤ k := (fun k hk => by simp [Value.ownBlock] at hk; omega); have LB30 := Aside0.mk (pw_below_grown (below_alloc (Below.refl w'.heap.size w') (.cells #[] 35)) _ (by simp) hg hgk); clear hr hb hg hx hgk))
            | ((with_reducible refine gate_builtin (b := .append) (xs := #[.tmp 132, .tmp 133]) rfl ?_); at_builtin; go_loud (refine Kd.R_append_rows kP (Rr := kP.K w30) (w0 := w) w.heap.size rfl (.tmp 132) (.tmp 133) 23 35 (pairP (0, zeroD)) 40 rfl Tryd.underlying23 infoPr (by rfl) (by decide) (by decide) v132 ak ps (some adS) ps.length cS (fun k => w'.heap.size ≤ k) (fun _ => False) rfl rfl R30.out (Kd.C_below HCP.out LB30.out) ?hKM2 (fun k hk => hk.elim) (fun k hk => Nat.le_trans LB30.out.size hk) (below_step HK.out.below LB30.out) (below_step HK.out.below LB30.out).size (by have := HN2.out; have := HPL.out; omega) ?_; (case hKM2 => intro q cs hq; obtain ⟨h1, h2⟩ := kP_K hq; rw [h2]; exact kP_M h1); intro v134 w31 hr hb hg hx; have R31 := Aside0.mk hr; have LB31 := Aside0.mk (pw_below_grown LB30.out _ LB30.out.size hg (fun k hk => R30.out.1 k hk)); clear hr hb hg hx)))
          obtain ⟨g, c, hv134⟩ := Kd.R_slice R31.out
          subst hv134
          exact ⟨by simp only [List.map_cons, List.map_nil, putAll, Act.put, List.setIfInBounds_toArray, List.set_cons_zero, List.set_cons_succ], ⟨⟨g, ⟨c, by rw [List.length_append]⟩, by have h := (Kd.R_reads' R31.out).2.2; rw [List.length_append] at h; exact h, LB31.out⟩⟩⟩
        case cont22 =>
          rintro jF W5 hF5
          obtain ⟨aK, cK, hj22, hck, hlb⟩ := hF5.out
          have K5 := Aside0.mk (HK.out.low hlb)
          have CP5 := Aside0.mk (Kd.C_below HCP.out hlb)
          have CS5 := Aside0.mk (Kd.C_below HCS.out hlb)
          show Code.wp _ _ _ _ _
          simp only [List.map_cons, List.map_nil, putAll, Act.put, List.setIfInBounds_toArray, List.set_cons_zero, List.set_cons_succ]
          rw [hj22]
          obtain ⟨adK, hadK, _⟩ := hck.2.2 (by have := HPL.out; simp; omega)
          subst hadK
          have CK5 := Aside0.mk hck
          clear hF5 hj22 hck hlb HK HR HSL HCP HCS HI HZW
          have HAQI := Aside0.mk (show ∀ p ∈ ak ++ ps, IsD p.2 from fun p hp => (List.mem_append.1 hp).elim (fun h => HS2.out p h) (fun h => HPI.out p h))
          have HAQL := Aside0.mk (show (ak ++ ps).length ≤ 1099511627807 by have := HN2.out; have := HPL.out; simp; omega)
          have HAQ0 := Aside0.mk (show 0 < (ak ++ ps).length by have := HPL.out; simp; omega)
          generalize ak ++ ps = aq at CK5 HAQI HAQL HAQ0 ⊢
          obtain ⟨ix, hix⟩ : ∃ m, (if Int.tmod at_ 32 < 0 then (-(Int.tmod at_ 32)).toNat else (Int.tmod at_ 32).toNat) = m := ⟨_, rfl⟩
          have HTM := Aside0.mk (show -32 < Int.tmod at_ 32 ∧ Int.tmod at_ 32 < 32 from ⟨by have := Int.lt_tmod_of_pos at_ (show (0 : Int) < 32 by decide); omega, Int.tmod_lt_of_pos at_ (by decide)⟩)
          have HIX := Aside0.mk (show ix < 32 by rw [← hix]; have := HTM.out; split <;> omega)
          refine wp_seq (wp_join [135, 136, 3] (fun j W => W = W5 ∧ j 3 = .int .i64 (Int.tmod at_ 32)) ?cont23 ?ways23)
          case ways23 =>
            go_wp2
            simp only [List.map_cons, List.map_nil, putAll, Act.put, List.setIfInBounds_toArray, List.set_cons_zero, List.set_cons_succ]
          case cont23 =>
            rintro jG W5' ⟨hW5, h3⟩
            subst hW5
            show Code.wp _ _ _ _ _
            simp only [List.map_cons, List.map_nil, putAll, Act.put, List.setIfInBounds_toArray, List.set_cons_zero, List.set_cons_succ]
            rw [h3]
            clear h3
            refine wp_seq (wp_join [137, 138, 139, 140, 3] (fun j W => W = W5' ∧ j 3 = .int .i64 (ix : Int)) ?cont24 ?ways24)
            case ways24 =>
              obtain ⟨t, ht⟩ : ∃ t, Int.tmod at_ 32 = t := ⟨_, rfl⟩
              rw [ht] at hix HTM ⊢
              clear ht
              by_cases hn : t < 0
              · have hnb : decide (t < 0) = true := decide_eq_true hn
                have hwn : wrap64 (-t) = (ix : Int) := by rw [← hix, if_pos hn]; have := HTM.out; unfold wrap64; omega
                have hvn : IntKind.i64.wrap (-t) = (ix : Int) := (i64_w _).trans hwn
                clear hix hn
                go_wp2
                simp only [List.map_cons, List.map_nil, putAll, Act.put, List.setIfInBounds_toArray, List.set_cons_zero, List.set_cons_succ]
              · have hnb : decide (t < 0) = false := decide_eq_false hn
                have e3 : t = (ix : Int) := by rw [← hix, if_neg hn]; omega
                clear hix hn
                go_wp2
                simp only [List.map_cons, List.map_nil, putAll, Act.put, List.setIfInBounds_toArray, List.set_cons_zero, List.set_cons_succ]
            case cont24 =>
              rintro jH W6 ⟨hW6, h3⟩
              subst hW6
              show Code.wp _ _ _ _ _
              simp only [List.map_cons, List.map_nil, putAll, Act.put, List.setIfInBounds_toArray, List.set_cons_zero, List.set_cons_succ]
              rw [h3]
              clear h3 hix
              rw [List.length_map]
              exact tail_wp HA HCA HNA HBI HF HL ⟨⟨HY.out.1, trivial⟩⟩ HPL HPI HAQI HIX K5 CP5 CS5 CK5 (fun t w' ht hb => bodyPost_ret (results_tmp rfl _ _ _) rfl (by rw [ht]; exact ⟨rfl, hb⟩))
end Go.Proofs.YtoigoiefnapokaaDoor.T
