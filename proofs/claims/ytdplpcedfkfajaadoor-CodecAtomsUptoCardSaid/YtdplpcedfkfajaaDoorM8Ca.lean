/- GLend2; GLend3; GCReadAtom; GDTake; GDTerm: texts of this claim, laid together. -/
import Derived.Test.YtdplpcedfkfajaaDoorM7Ca
import Derived.Test.YtdplpcedfkfajaaDoorM5Ca
/- LendAtom, KeptAtom: an atom whose arguments are lent; is it as it was? -/
set_option linter.unusedVariables false
set_option linter.unusedSimpArgs false
namespace Go.Proofs.YtdplpcedfkfajaaDoor.T
open Go.RowKit Go.Proofs.YtdplpcedfkfajaaDoorW.PrintWords Go.Proofs.YtdplpcedfkfajaaDoorW.PrintLast
attribute [local go_sem high] eqA23
set_option maxHeartbeats 4000000 in
set_option maxRecDepth 100000 in
theorem lendAtom_calls (t : Tm) (nm : ByteArray) (A : Option Addr) (c : Nat) (l : List Tm) (w : World) (hC : Kd.C k23 w A l.length l) (hc : l.length ≤ c) (hLD : Laid1 w) (ll : l.length < smallN) :
    Calls Tryd.prog 6 #[.agg #[.int .i64 t.f0, .int .i64 t.f1, .string t.f2, .string nm, .slice A l.length c]] w fun e w' => ∃ g c, e = .returned (.agg #[.int .i64 t.f0, .int .i64 t.f1, .string t.f2, .string nm, .slice (some ⟨g, 0, none⟩) l.length c]) ∧ Kd.R k23 23 w' w.heap.size (fun _ => True) (.slice (some ⟨g, 0, none⟩) (l.length + 1) c) (l ++ [behindT]) ∧ Below w.heap.size w w' := by
  have hu26 := Tryd.underlying26
  have hu23 := Tryd.underlying23
  have HC := Aside0.mk hC
  have HCC := Aside0.mk hc
  have HL := Aside0.mk ll
  have HLD := Aside0.mk hLD
  clear hC hc hLD ll
  go_enter Tryd.func6, Tryd.ntmps6
  go_wp2_with (first
    | ((with_reducible refine gate_dst (N := 1) rfl ?_); refine box_event ?hg (N := 1) ?hd (cs := #[.int .i64 t.f0, .int .i64 t.f1, .string t.f2, .string nm, .slice A l.length c]) (t := 26) ?hr ?_; (case hd => rfl); (case hg => rfl); (case hr => first | (go_simp; done) | (go_simp; rfl)); intro b1 hb1 w1 hbox hb; have B1 := Aside0.mk hbox; have HB1 := Aside0.mk hb; clear hb1 hbox hb)
    | ((with_reducible refine gate_dst (N := 2) rfl ?_); refine box_event ?hg (N := 2) ?hd (cs := #[.int .i64 0, .int .i64 0, .string (⟨#[]⟩ : ByteArray), .string (⟨#[]⟩ : ByteArray), .slice none 0 0]) (t := 26) ?hr ?_; (case hd => rfl); (case hg => rfl); (case hr => first | (go_simp; done) | (go_simp; rfl)); intro b2 hb2 w2 hbox hb; have B2 := Aside0.mk hbox; have HB2 := Aside0.mk (below_step HB1.out hb); have G2 := Aside0.mk (show w.heap.size ≤ b2 by have := HB1.out.size; omega); have N2 := Aside0.mk (show b1 < b2 by have := blk_lt B1.out; omega); replace B1 := Aside0.mk (blk_below B1.out hb); have p0 := (blk_cell B1.out 0).trans rfl; have p1 := (blk_cell B1.out 1).trans rfl; have p2 := (blk_cell B1.out 2).trans rfl; have p3 := (blk_cell B1.out 3).trans rfl; have p4 := (blk_cell B1.out 4).trans rfl; clear hb2 hbox hb))
  have hne := (show b2 ≠ b1 by have := N2.out; omega)
  have hne' := Ne.symm hne
  go_region_held3 (fun w' => w'.cell? ⟨b1, 0, none⟩ = some (.int .i64 t.f0) ∧ w'.cell? ⟨b1, 1, none⟩ = some (.int .i64 t.f1) ∧ w'.cell? ⟨b1, 2, none⟩ = some (.string t.f2) ∧ w'.cell? ⟨b1, 3, none⟩ = some (.string nm) ∧ w'.cell? ⟨b1, 4, none⟩ = some (.slice A l.length c))
    (first
      | go_keep
      | exact ⟨(blk_cell B1.out 0).trans rfl, (blk_cell B1.out 1).trans rfl, (blk_cell B1.out 2).trans rfl, (blk_cell B1.out 3).trans rfl, (blk_cell B1.out 4).trans rfl⟩)
    ((go_at_call 25; (with_reducible refine (lendTerms_calls A c l _ (Kd.C_below HC.out (below_drew HB2.out)) HCC.out (Laid1.up HLD.out (below_drew HB2.out)) HL.out).mono ?_); rintro e w3 ⟨g, cg, rfl, hR, hb⟩; have L2 := Aside0.mk (show b2 < w2.heap.size from blk_lt B2.out); have HWS := Aside0.mk HB2.out.size; have HR := Aside0.mk hR; replace B2 := Aside0.mk (blk_below (blk_drew B2.out) hb); replace B1 := Aside0.mk (blk_below (blk_drew B1.out) hb); have HB3 := Aside0.mk (below_step (below_drew HB2.out) hb); clear hR hb p0 p1 p2 p3 p4; have q0 := (blk_cell B2.out 0).trans rfl; have z0 := blk_frozen B2.out 0; have q1 := (blk_cell B2.out 1).trans rfl; have z1 := blk_frozen B2.out 1; have q2 := (blk_cell B2.out 2).trans rfl; have z2 := blk_frozen B2.out 2; have q3 := (blk_cell B2.out 3).trans rfl; have z3 := blk_frozen B2.out 3; have q4 := (blk_cell B2.out 4).trans rfl; have z4 := blk_frozen B2.out 4))
  go_wp2
  refine bodyPost_ret (results_cell_row rfl _ _ b2 26 #[.int .i64 t.f0, .int .i64 t.f1, .string t.f2, .string nm, .slice (some ⟨g, 0, none⟩) l.length cg] (0, 0) _ rfl (blk5 B2.out) Tryd.underlying26 rfl (by kernel_rfl)) rfl ?_
  refine ⟨g, cg, rfl, ?_, ((((HB3.out.setCell G2.out _).setCell G2.out _).setCell G2.out _).setCell G2.out _).setCell G2.out _⟩
  have hF := Kd.R_mono (Kd.R_bound HR.out) (ok' := fun k => w2.heap.size ≤ k) (fun k hk => hk.2.1)
  have hne : ∀ k, w2.heap.size ≤ k → k ≠ b2 := fun k hk => by have := L2.out; omega
  exact Kd.R_mono (Kd.R_lower (Kd.R_far (Kd.R_far (Kd.R_far (Kd.R_far (Kd.R_far hF (p := ⟨b2, 0, none⟩) hne _) (p := ⟨b2, 1, none⟩) hne _) (p := ⟨b2, 2, none⟩) hne _) (p := ⟨b2, 3, none⟩) hne _) (p := ⟨b2, 4, none⟩) hne _) HWS.out) (fun _ _ => trivial)
set_option maxHeartbeats 4000000 in
set_option maxRecDepth 100000 in
theorem keptAtom_calls (t : Tm) (nm : ByteArray) (g c : Nat) (A2 : Option Addr) (c2 : Nat) (l : List Tm) (w : World) (base : Nat) (ok : Nat → Prop) (hR : Kd.R k23 23 w base ok (.slice (some ⟨g, 0, none⟩) (l.length + 1) c) (l ++ [behindT])) (hr2 : Kd.C k23 w A2 l.length l) (hc2 : l.length ≤ c2) (hLD : Laid1 w) (ls : l.length < smallN) :
    Calls Tryd.prog 9 #[.agg #[.int .i64 t.f0, .int .i64 t.f1, .string t.f2, .string nm, .slice (some ⟨g, 0, none⟩) l.length c], .agg #[.int .i64 t.f0, .int .i64 t.f1, .string t.f2, .string nm, .slice A2 l.length c2]] w fun e w' => e = .returned (.bool true) ∧ Below w.heap.size w w' := by
  have hu26 := Tryd.underlying26
  have hu23 := Tryd.underlying23
  have HR := Aside0.mk hR
  have HC2 := Aside0.mk hr2
  have HCC := Aside0.mk hc2
  have HL := Aside0.mk ls
  have HLD := Aside0.mk hLD
  clear hR hr2 hc2 hLD ls
  go_enter Tryd.func9, Tryd.ntmps9
  go_wp2_with (first
    | ((with_reducible refine gate_dst (N := 2) rfl ?_); refine box_event ?hg (N := 2) ?hd (cs := #[.int .i64 t.f0, .int .i64 t.f1, .string t.f2, .string nm, .slice (some ⟨g, 0, none⟩) l.length c]) (t := 26) ?hr ?_; (case hd => rfl); (case hg => rfl); (case hr => first | (go_simp; done) | (go_simp; rfl)); intro b1 hb1 w1 hbox hb; have B1 := Aside0.mk hbox; have HB1 := Aside0.mk hb; clear hb1 hbox hb)
    | ((with_reducible refine gate_dst (N := 3) rfl ?_); refine box_event ?hg (N := 3) ?hd (cs := #[.int .i64 t.f0, .int .i64 t.f1, .string t.f2, .string nm, .slice A2 l.length c2]) (t := 26) ?hr ?_; (case hd => rfl); (case hg => rfl); (case hr => first | (go_simp; done) | (go_simp; rfl)); intro b2 hb2 w2 hbox hb; have B2 := Aside0.mk hbox; have HB2 := Aside0.mk (below_step HB1.out hb); have p0 := (blk_cell (blk_below B1.out hb) 0).trans rfl; have p1 := (blk_cell (blk_below B1.out hb) 1).trans rfl; have p2 := (blk_cell (blk_below B1.out hb) 2).trans rfl; have p3 := (blk_cell (blk_below B1.out hb) 3).trans rfl; have p4 := (blk_cell (blk_below B1.out hb) 4).trans rfl; clear hb2 hbox hb; have q0 := (blk_cell B2.out 0).trans rfl; have q1 := (blk_cell B2.out 1).trans rfl; have q2 := (blk_cell B2.out 2).trans rfl; have q3 := (blk_cell B2.out 3).trans rfl; have q4 := (blk_cell B2.out 4).trans rfl)
    | (go_at_call 30; (with_reducible refine (keptTerms_calls g c A2 c2 l _ base ok (Kd.R_below HR.out HB2.out) (Kd.C_below HC2.out HB2.out) HCC.out (Laid1.up HLD.out HB2.out) HL.out).mono ?_); rintro e w3 ⟨rfl, hb⟩; have HB3 := Aside0.mk (below_step HB2.out hb); clear hb p0 p1 p2 p3 p4 q0 q1 q2 q3 q4))
  go_ret
  exact ⟨by first | rfl | simp, HB3.out⟩
end Go.Proofs.YtdplpcedfkfajaaDoor.T
/- lend, kept: bytes with three of our own behind them; first: a call whose answer the document fixes. -/
set_option linter.unusedVariables false
set_option linter.unusedSimpArgs false
namespace Go.Proofs.YtdplpcedfkfajaaDoor.T
open Go.RowKit Go.Proofs.YtdplpcedfkfajaaDoorW.PrintWords Go.Proofs.YtdplpcedfkfajaaDoorW.PrintLast
theorem lit3 (W : World) : ReadsInt (W.alloc (.cells #[.int .u8 91, .int .u8 92, .int .u8 93] 5)) .u8 (some ⟨W.heap.size, 0, none⟩) 3 [91, 92, 93] := by
  refine ⟨rfl, by omega, fun _ => ⟨_, rfl, fun j hj => ?_⟩⟩
  have hb : (W.alloc (.cells #[.int .u8 91, .int .u8 92, .int .u8 93] 5)).heap[W.heap.size]? = some (.cells #[.int .u8 91, .int .u8 92, .int .u8 93] 5 (0, 0)) := heap_alloc_new W _
  rw [add_plain]
  match j, hj with
  | 0, _ => exact (blk_cell hb 0).trans rfl
  | 1, _ => exact (blk_cell hb 1).trans rfl
  | 2, _ => exact (blk_cell hb 2).trans rfl
set_option maxHeartbeats 4000000 in
set_option maxRecDepth 100000 in
theorem lend_calls (A : Option Addr) (c : Nat) (l : List Int) (w : World) (hr : ReadsInt w .u8 A l.length l) (hc : l.length ≤ c) (ls : l.length < smallN) :
    Calls Tryd.prog 10 #[.slice A l.length c] w fun e w' => ∃ g c', e = .returned (.slice (some ⟨g, 0, none⟩) l.length c') ∧ Bt w' w.heap.size (fun _ => True) (.slice (some ⟨g, 0, none⟩) (l.length + 3) c') (l ++ [91, 92, 93]) ∧ Below w.heap.size w w' := by
  have HR := Aside0.mk (Kd.C_of_reads (enc := Value.int .u8) (d := (0 : Int)) (h1 := fun _ => rfl) hr)
  have HC := Aside0.mk hc
  have HS := Aside0.mk ls
  have hw64 : wrap64 (l.length : Int) = (l.length : Int) := by simp [smallN] at ls; unfold wrap64; omega
  clear hr hc ls
  go_enter Tryd.func10, Tryd.ntmps10
  go_wp2_with (first
    | ((with_reducible refine gate_builtin (b := .append) (xs := #[.tmp 4, .tmp 5]) rfl ?_); at_builtin; refine Kd.R_append_rows (Kd.int .u8) (w0 := w) w.heap.size rfl (.tmp 4) (.tmp 5) 27 5 (.int .u8 0) 1 rfl Tryd.underlying27 info5 rfl (by decide) (by omega) (.slice none 0 0) ([] : List Int) l _ _ _ (fun _ => True) (fun _ => False) rfl rfl (Kd.R_nil _ _ _ _ (fun _ => True)) HR.out (fun _ _ h => h) (fun _ h => h.elim) (fun _ _ => trivial) (Below.refl _ w) (Nat.le_refl _) (by have := HS.out; simp [smallN] at this; simp; omega) ?_; intro v1 w1 ho hb hg hat; have HO1 := Aside0.mk ho; have HB1 := Aside0.mk hb; clear ho hb hg hat)
    | ((with_reducible refine gate_builtin (b := .append) (xs := #[.tmp 7, .tmp 8]) rfl ?_); at_builtin; refine Kd.R_append_rows (Kd.int .u8) (w0 := w) w.heap.size rfl (.tmp 7) (.tmp 8) 27 5 (.int .u8 0) 1 rfl Tryd.underlying27 info5 rfl (by decide) (by omega) v1 ([] ++ l) [91, 92, 93] (some ⟨w1.heap.size, 0, none⟩) 3 3 (fun _ => True) (fun _ => False) rfl rfl (Kd.R_alloc HO1.out _) (Kd.C_of_reads (enc := Value.int .u8) (d := (0 : Int)) (h1 := fun _ => rfl) (lit3 w1)) (fun _ _ h => h) (fun _ h => h.elim) (fun _ _ => trivial) (below_alloc HB1.out _) (by have := HB1.out.size; simp; omega) (by have := HS.out; simp [smallN] at this; simp; omega) ?_; intro v2 w2 ho hb hg hat; have HO2 := Aside0.mk ho; have HB2 := Aside0.mk hb; clear ho hb hg hat; obtain ⟨g2, c2, e2, hc2, _⟩ := R_head HO2.out (by simp); have hcc : (l.length : Int) ≤ (c2 : Int) := (by simp at hc2; omega); clear hc2; subst e2))
  go_ret
  refine ⟨g2, c2, rfl, ?_, HB2.out⟩
  have h := HO2.out
  simp only [List.nil_append, List.length_append, List.length_cons, List.length_nil] at h
  exact h
set_option maxHeartbeats 4000000 in
set_option maxRecDepth 100000 in
theorem kept_calls (g c : Nat) (A2 : Option Addr) (c2 : Nat) (l : List Int) (w : World) (base : Nat) (ok : Nat → Prop) (hR : Bt w base ok (.slice (some ⟨g, 0, none⟩) (l.length + 3) c) (l ++ [91, 92, 93])) (hr2 : ReadsInt w .u8 A2 l.length l) (hc2 : l.length ≤ c2) (ls : l.length < smallN) :
    Calls Tryd.prog 14 #[.slice (some ⟨g, 0, none⟩) l.length c, .slice A2 l.length c2] w fun e w' => e = .returned (.bool true) ∧ Below w.heap.size w w' := by
  have hcc : l.length + 3 ≤ c := by have := R_room (g := g) (n := l.length + 3) (c := c) hR (by simp); simpa using this
  have hI : ReadsInt w .u8 (some ⟨g, 0, none⟩) (l ++ [91, 92, 93]).length (l ++ [91, 92, 93]) := readsInt_of.2 (Kd.reads_of_C (enc := Value.int .u8) (d := (0 : Int)) (h1 := fun _ => rfl) (R_C' hR))
  have h0 : ReadsInt w .u8 (some ⟨g, 0, none⟩) l.length l := by have := hI.take_ l.length (by simp); simpa using this
  obtain ⟨ad, ead, hcell⟩ := hI.2.2 (by simp)
  injection ead with ead
  subst ead
  have hx0 : w.cell? ⟨g, l.length, none⟩ = some (.int .u8 91) := by have := hcell l.length (by simp); rw [add0] at this; simpa using this
  have hx1 : w.cell? ⟨g, l.length + 1, none⟩ = some (.int .u8 92) := by have := hcell (l.length + 1) (by simp); rw [add0] at this; simpa [List.getD_eq_getElem?_getD] using this
  have hx2 : w.cell? ⟨g, l.length + 2, none⟩ = some (.int .u8 93) := by have := hcell (l.length + 2) (by simp); rw [add0] at this; simpa [List.getD_eq_getElem?_getD] using this
  obtain ⟨N, hN⟩ : ∃ N : Nat, N = l.length + 3 := ⟨_, rfl⟩
  obtain ⟨N1, hN1⟩ : ∃ N : Nat, N = l.length + 1 := ⟨_, rfl⟩
  obtain ⟨N2, hN2⟩ : ∃ N : Nat, N = l.length + 2 := ⟨_, rfl⟩
  rw [← hN1] at hx1
  rw [← hN2] at hx2
  have hw3 : wrap64 ((l.length : Int) + 3) = (N : Int) := by simp [smallN] at ls; unfold wrap64; omega
  have hw1 : wrap64 ((l.length : Int) + 1) = (N1 : Int) := by simp [smallN] at ls; unfold wrap64; omega
  have hw2 : wrap64 ((l.length : Int) + 2) = (N2 : Int) := by simp [smallN] at ls; unfold wrap64; omega
  have hv3 : IntKind.i64.wrap ((l.length : Int) + 3) = (N : Int) := (i64_w _).trans hw3
  have hv1 : IntKind.i64.wrap ((l.length : Int) + 1) = (N1 : Int) := (i64_w _).trans hw1
  have hv2 : IntKind.i64.wrap ((l.length : Int) + 2) = (N2 : Int) := (i64_w _).trans hw2
  have p0 : (0 : Int) ≤ (l.length : Int) := by omega
  have p1 : (0 : Int) ≤ (N : Int) := by omega
  have p2 : (N : Int) ≤ (c : Int) := by omega
  have p3 : (l.length : Int) < (N : Int) := by omega
  have p4 : l.length < N := by omega
  have p5 : (N1 : Int) < (N : Int) := by omega
  have p6 : N1 < N := by omega
  have p7 : (0 : Int) ≤ (N1 : Int) := by omega
  have p8 : (N2 : Int) < (N : Int) := by omega
  have p9 : N2 < N := by omega
  have p10 : (0 : Int) ≤ (N2 : Int) := by omega
  have hs0 := string_of_reads (P := Tryd.prog) (src := 27) (dst := 9) (c := c) Tryd.underlying27 Tryd.underlying5 Tryd.underlying9 h0
  have hs2 := string_of_reads (P := Tryd.prog) (src := 27) (dst := 9) (c := c2) Tryd.underlying27 Tryd.underlying5 Tryd.underlying9 hr2
  clear hR hI hcell h0 hr2 hN hN1 hN2 hcc
  go_enter Tryd.func14, Tryd.ntmps14
  go_wp2
  go_ret
  exact ⟨by first | rfl | simp, Below.refl _ _⟩
theorem first_check : codecAtom ⟨0, 0, ⟨#[]⟩⟩ ⟨#[111, 107]⟩ [] = ([0, 2, 111, 107, 0], 0) := by decide +kernel
set_option maxHeartbeats 4000000 in
set_option maxRecDepth 100000 in
theorem first_calls (w : World) (hLD : Laid2 w) :
    Calls Tryd.prog 15 #[] w fun e w' => e = .returned (.bool true) ∧ Below w.heap.size w w' := by
  have HA := Aside0.mk (show Calls Tryd.prog 7 #[.agg #[.int .i64 0, .int .i64 0, .string ⟨#[]⟩, .string ⟨#[111, 107]⟩, .slice none 0 0]] w (Wrote w ([0, 2, 111, 107, 0], 0)) from by rw [← first_check]; exact atom_calls ⟨0, 0, ⟨#[]⟩⟩ ⟨#[111, 107]⟩ none 0 [] w ⟨rfl, by simp, fun h => by simp at h⟩ (Nat.le_refl _) rfl hLD (by decide) (by decide))
  clear hLD
  have hu26 := Tryd.underlying26
  go_enter Tryd.func15, Tryd.ntmps15
  go_wp2_with (go_at_call 7; (with_reducible refine HA.out.mono ?_); rintro e w1 ⟨⟨v, rfl, hv⟩, hb⟩; obtain ⟨A1, c1, rfl⟩ := Kd.R_slice hv; have hs : (convert 27 9 (.slice A1 5 c1)).run Tryd.prog w1 = .ok (.string ⟨#[0, 2, 111, 107, 0]⟩) w1 := string_of_reads (P := Tryd.prog) (src := 27) (dst := 9) (c := c1) Tryd.underlying27 Tryd.underlying5 Tryd.underlying9 (readsInt_of.2 (Kd.reads_of_C (enc := Value.int .u8) (d := (0 : Int)) (h1 := fun _ => rfl) (R_C' hv))); have HB := Aside0.mk hb; clear hb hv)
  go_ret
  exact ⟨by first | rfl | simp, HB.out⟩
end Go.Proofs.YtdplpcedfkfajaaDoor.T
/- The walk of codec.ReadAtom. -/
set_option linter.unusedVariables false
set_option linter.unusedSimpArgs false
namespace Go.Proofs.YtdplpcedfkfajaaDoor.T
open Go.RowKit Go.Proofs.YtdplpcedfkfajaaDoorW.PrintWords Go.Proofs.YtdplpcedfkfajaaDoorW.PrintLast
set_option maxHeartbeats 8000000 in
set_option maxRecDepth 100000 in
theorem readAtom_calls (w : World) (A : Option Addr) (c : Nat) (bs : List Int) (hR : ReadsInt w .u8 A bs.length bs) (hc : bs.length ≤ c) (hby : isBytes bs) (hLD : Laid2 w) :
    Calls Tryd.prog 11 #[.slice A bs.length c] w (ReadA w (readRes (atomR bs))) := by
  have hu26 := Tryd.underlying26
  have hu23 := Tryd.underlying23
  have HR := Aside0.mk hR
  have HC := Aside0.mk hc
  have HLD := Aside0.mk hLD
  clear hR hc hLD
  obtain ⟨r, hr⟩ : ∃ r, readRes (atomR bs) = r := ⟨_, rfl⟩
  have HCALL := Aside0.mk (show ∀ W, Below w.heap.size w W → Calls Tryd.prog 31 #[.slice A bs.length c, .func (.func 32) #[] #[]] W (ReadA W r) from fun W hb => by rw [← hr]; exact read_calls W A c bs (HR.out.below hb) HC.out hby (Laid2.up HLD.out hb))
  rw [hr]
  obtain ⟨⟨t, nm, l⟩, er⟩ := r
  clear hr hby
  go_enter Tryd.func11, Tryd.ntmps11
  go_wp2_with (first
    | ((with_reducible refine gate_dst (N := 2) rfl ?_); refine box_event ?hg (N := 2) ?hd (cs := #[.int .i64 0, .int .i64 0, .string (⟨#[]⟩ : ByteArray), .string (⟨#[]⟩ : ByteArray), .slice none 0 0]) (t := 26) ?hr ?_; (case hd => rfl); (case hg => rfl); (case hr => first | (go_simp; done) | (go_simp; rfl)); intro b2 hb2 w1 hbox hb; have B2 := Aside0.mk hbox; have HB1 := Aside0.mk hb; have G2 := Aside0.mk (show w.heap.size ≤ b2 by omega); clear hb2 hbox hb))
  refine (HCALL.out _ HB1.out).mono ?_
  rintro e w2 ⟨⟨v, rfl, ⟨sl, rfl, hL⟩⟩, hb⟩
  obtain ⟨Al, cl, rfl⟩ := Kd.R_slice hL
  have L2 := Aside0.mk (show b2 < w1.heap.size from blk_lt B2.out)
  replace B2 := Aside0.mk (blk_below B2.out hb)
  have HB2 := Aside0.mk (below_step HB1.out hb)
  have HL := Aside0.mk hL
  have HWS := Aside0.mk HB1.out.size
  have q0 := (blk_cell B2.out 0).trans rfl
  have z0 := blk_frozen B2.out 0
  have q1 := (blk_cell B2.out 1).trans rfl
  have z1 := blk_frozen B2.out 1
  have q2 := (blk_cell B2.out 2).trans rfl
  have z2 := blk_frozen B2.out 2
  have q3 := (blk_cell B2.out 3).trans rfl
  have z3 := blk_frozen B2.out 3
  have q4 := (blk_cell B2.out 4).trans rfl
  have z4 := blk_frozen B2.out 4
  clear hb hL HCALL
  go_wp2
  refine bodyPost_ret (results_ct rfl _ _ b2 26 #[.int .i64 t.f0, .int .i64 t.f1, .string t.f2, .string nm, .slice Al l.length cl] (0, 0) _ rfl (blk5 B2.out) Tryd.underlying26 rfl (by kernel_rfl)) rfl ?_
  exact ⟨⟨_, rfl, _, rfl, ValL.lower (((((HL.out.far L2.out 0 _).far L2.out 1 _).far L2.out 2 _).far L2.out 3 _).far L2.out 4 _) HWS.out⟩, ((((HB2.out.setCell G2.out _).setCell G2.out _).setCell G2.out _).setCell G2.out _).setCell G2.out _⟩
end Go.Proofs.YtdplpcedfkfajaaDoor.T
/- The walks of the document's reader: stop, take, number. The first fault stays. -/
set_option linter.unusedVariables false
set_option linter.unusedSimpArgs false
namespace Go.Proofs.YtdplpcedfkfajaaDoor.T
open Go.RowKit Go.Proofs.YtdplpcedfkfajaaDoorW.PrintWords Go.Proofs.YtdplpcedfkfajaaDoorW.PrintLast
/-- What a reader still has, or its first fault. -/
abbrev Left := Except Int (List Int)
/-- The reader's place and fault. -/
def Left.at_ (B : List Int) (s : Left) (at_ err : Int) : Prop := match s with
  | .ok rest => err = 0 ∧ B.drop at_.toNat = rest
  | .error c => err = c ∧ c ≠ 0
/-- The document's reader in block rb. -/
structure Sst (w0 W : World) (rb : Nat) (B : List Int) (s : Left) : Prop where
  ex : ∃ A c at_ err, W.heap[rb]? = some (.cells #[.slice A B.length c, .int .i64 at_, .int .i64 err] 60 (0, 0)) ∧ B.length ≤ c ∧ ReadsInt w0 .u8 A B.length B ∧ 0 ≤ at_ ∧ at_ ≤ B.length ∧ Left.at_ B s at_ err
  below : Below w0.heap.size w0 W
  at_ : w0.heap.size ≤ rb
/-- What is left behind a reading. -/
def Left.after {α : Type} (r : Except Int (α × List Int)) (x : α) (s : Left) : Prop := match r with
  | .ok (y, rest) => x = y ∧ s = .ok rest
  | .error c => s = .error c
/-- A reading of the document's: it always answers. -/
structure Gets {α : Type} (w0 w : World) (rb : Nat) (B : List Int) (r : Except Int (α × List Int)) (val : α → World → Value → Prop) (e : Ending) (w' : World) : Prop where
  keep : KeepBut w w' rb none
  ex : ∃ x v s, e = .returned v ∧ val x w' v ∧ Sst w0 w' rb B s ∧ Left.after r x s
def Left.read {α : Type} (s : Left) (r : Rd α) : Except Int (α × List Int) := match s with
  | .ok rest => r rest
  | .error c => .error c
section
variable {w0 W W' : World} {rb : Nat} {B : List Int} {s : Left}
theorem Sst.len (h : Sst w0 W rb B s) : B.length ≤ 9223372036854775807 := by
  obtain ⟨A, c, a, e, _, _, hr, _⟩ := h.ex
  exact hr.2.1
theorem Sst.lt (h : Sst w0 W rb B s) : rb < W.heap.size := by
  obtain ⟨A, c, a, e, hb, _⟩ := h.ex
  exact blk_lt hb
theorem Sst.drewN (h : Sst w0 W rb B s) (m : Nat) : Sst w0 (W.drewN m) rb B s := ⟨h.ex, pw_below_drewN h.below m, h.at_⟩
theorem KeepBut.drewN_ {w : World} {g : Nat} (h : KeepBut w W g none) (m : Nat) : KeepBut w (W.drewN m) g none := h
end
set_option maxRecDepth 100000 in
theorem stop_ok {w0 w : World} {rb : Nat} {B : List Int} {rest : List Int} (c : Int) (hc : c ≠ 0) (h : Sst w0 w rb B (.ok rest)) :
    Calls Tryd.prog 75 #[.pointer (some ⟨rb, 0, none⟩), .int .i64 c] w fun e w' => e = .returned (.tuple #[]) ∧ Sst w0 w' rb B (.error c) ∧ KeepBut w w' rb none := by
  have HAT := Aside0.mk h.at_
  have HBL := Aside0.mk h.below
  obtain ⟨A, cp, a, e, hb, hcp, hr, ha0, ha1, he, hd⟩ := h.ex
  subst he
  have HR := Aside0.mk hr
  have HC := Aside0.mk hcp
  have HA := Aside0.mk (And.intro ha0 ha1)
  have HCN := Aside0.mk hc
  have HBK := Aside0.mk hb
  have p2 := (blk_cell HBK.out 2).trans rfl
  have f2 := blk_frozen HBK.out 2
  clear h hb hcp hr ha0 ha1 hd hc
  go_enter Tryd.func75, Tryd.ntmps75
  go_wp2
  first | go_end0 | ((try simp only [Exit.inBlock, Exit.then]); refine bodyPost_ret (results_none rfl _ _ _) rfl ?_)
  exact ⟨rfl, ⟨⟨A, cp, a, c, by simpa using blk_set HBK.out 2 (.int .i64 c), HC.out, HR.out, HA.out.1, HA.out.2, rfl, HCN.out⟩, HBL.out.setCell HAT.out _, HAT.out⟩, KeepBut.set_ (KeepBut.refl _ _ _) 2 _⟩
set_option maxRecDepth 100000 in
theorem stop_err {w0 w : World} {rb : Nat} {B : List Int} {d : Int} (c : Int) (h : Sst w0 w rb B (.error d)) :
    Calls Tryd.prog 75 #[.pointer (some ⟨rb, 0, none⟩), .int .i64 c] w fun e w' => e = .returned (.tuple #[]) ∧ w' = w := by
  obtain ⟨A, cp, a, e, hb, hcp, hr, ha0, ha1, he, hd⟩ := h.ex
  subst he
  have HBK := Aside0.mk hb
  have p2 := (blk_cell HBK.out 2).trans rfl
  have f2 := blk_frozen HBK.out 2
  have d0 : (e == 0) = false := by simpa using hd
  clear h hb hcp hr ha0 ha1 hd
  go_enter Tryd.func75, Tryd.ntmps75
  go_wp2
  first | go_end0 | ((try simp only [Exit.inBlock, Exit.then]); refine bodyPost_ret (results_none rfl _ _ _) rfl ?_)
  exact ⟨rfl, rfl⟩
/-- A fault is laid where there was none; the first stays. -/
theorem stop_calls {w0 w : World} {rb : Nat} {B : List Int} {s : Left} (c : Int) (hc : c ≠ 0) (h : Sst w0 w rb B s) :
    Calls Tryd.prog 75 #[.pointer (some ⟨rb, 0, none⟩), .int .i64 c] w fun e w' => e = .returned (.tuple #[]) ∧ Sst w0 w' rb B (match s with | .ok _ => .error c | .error d => .error d) ∧ KeepBut w w' rb none := by
  cases s with
  | ok rest => exact stop_ok c hc h
  | error d => exact (stop_err c h).mono (fun e w' hr => by obtain ⟨rfl, rfl⟩ := hr; exact ⟨rfl, h, KeepBut.refl _ _ _⟩)
/-- Bytes that were taken: n at most, out of B. -/
def ValBn (w0 : World) (n : Nat) (B : List Int) (x : List Int) (_ : World) (v : Value) : Prop := ∃ A c, v = .slice A x.length c ∧ ReadsInt w0 .u8 A x.length x ∧ x.length ≤ n ∧ ∀ c ∈ x, c ∈ B
set_option maxHeartbeats 4000000 in
set_option maxRecDepth 100000 in
theorem take_s (w0 w : World) (rb : Nat) (B : List Int) (s : Left) (n : Nat) (hn : n ≤ 4611686018427387904) (h : Sst w0 w rb B s) :
    Calls Tryd.prog 74 #[.pointer (some ⟨rb, 0, none⟩), .int .i64 n] w (Gets w0 w rb B (s.read (takeR n)) (ValBn w0 n B)) := by
  have hu27 := Tryd.underlying27
  have hu60 := Tryd.underlying60
  have HLN := Aside0.mk h.len
  have HLT := Aside0.mk h.lt
  have HAT := Aside0.mk h.at_
  have HBL := Aside0.mk h.below
  have HS := Aside0.mk h
  obtain ⟨A, c, a, e, hb, hc, hr, ha0, ha1, hs⟩ := h.ex
  obtain ⟨a, rfl⟩ := Int.eq_ofNat_of_zero_le ha0
  have HBK := Aside0.mk hb
  have HC := Aside0.mk hc
  have HR := Aside0.mk hr
  have p0 := (blk_cell HBK.out 0).trans rfl
  have p1 := (blk_cell HBK.out 1).trans rfl
  have p2 := (blk_cell HBK.out 2).trans rfl
  have f1 := blk_frozen HBK.out 1
  clear h hb hc hr ha0
  cases s with
  | error d =>
    obtain ⟨rfl, hd⟩ := hs
    have d0 : (e != 0) = true := by simpa using hd
    clear hd
    go_enter Tryd.func74, Tryd.ntmps74
    go_wp2
    go_ret
    exact ⟨KeepBut.refl _ _ _, [], _, _, rfl, ⟨none, 0, rfl, ReadsInt.nil _ _, Nat.zero_le _, by simp⟩, HS.out, rfl⟩
  | ok rest =>
    obtain ⟨rfl, hd⟩ := hs
    rw [Int.toNat_natCast] at hd
    subst hd
    have HA1 := Aside0.mk ha1
    have hw1 : wrap64 ((B.length : Int) - (a : Int)) = (B.length : Int) - (a : Int) := by have := HLN.out; simp only [wrap64]; omega
    by_cases hlt : n ≤ (B.drop a).length
    · have hlt2 : a + n ≤ B.length := by rw [List.length_drop] at hlt; omega
      obtain ⟨i0, hi, hsz⟩ := Option.map_eq_some_iff.1 info5
      simp only [Prod.mk.injEq] at hsz
      obtain ⟨A1, hcut, hA1, hA2⟩ := print_mid_int (P := Tryd.prog) (k := .u8) 27 5 hu27 hi hsz.2.1 A c B (a : Int) ((a : Int) + (n : Int)) (by omega) (by omega) (by omega) HC.out
      have HV := Aside0.mk (hA1 w0 HR.out)
      have HLE := Aside0.mk hlt2
      have d1 : decide ((B.length : Int) - (a : Int) < (n : Int)) = false := decide_eq_false (by omega)
      have d2 : decide ((n : Int) > (B.length : Int) - (a : Int)) = false := decide_eq_false (by omega)
      have hw2 : wrap64 ((a : Int) + (n : Int)) = (a : Int) + (n : Int) := by have := HLN.out; have := HA1.out; simp only [wrap64]; omega
      have er : (Left.read (.ok (B.drop a)) (takeR n)) = .ok ((B.take (a + n)).drop a, B.drop (a + n)) := by
        unfold Left.read takeR
        simp only
        rw [if_pos hlt, List.drop_drop, List.drop_take]
        simp
      rw [er]
      have hbit := d1
      clear hA1 hA2 hlt er hsz hi hlt2 ha1
      go_enter Tryd.func74, Tryd.ntmps74
      go_wp2
      repeat (go_quiet (fail); try go_wp2)
      go_ret
      refine ⟨KeepBut.set_ (KeepBut.drewN_ (KeepBut.refl _ _ _) _) 1 _, _, _, .ok (B.drop (a + n)), rfl, ⟨A1, c - a, ?_, ?_, ?_, fun c hc => List.mem_of_mem_take (List.mem_of_mem_drop hc)⟩, ⟨⟨A, c, (a : Int) + (n : Int), 0, by simpa using blk_set (w := w.drewN _) HBK.out 1 (.int .i64 ((a : Int) + (n : Int))), HC.out, HR.out, by omega, by have := HLE.out; omega, rfl, by
        have e : ((a : Int) + (n : Int)).toNat = a + n := by omega
        rw [e]⟩, (pw_below_drewN HBL.out _).setCell HAT.out _, HAT.out⟩, rfl, rfl⟩
      · have e2 : ((B.take (a + n)).drop a).length = min (a + n) B.length - a := by rw [List.length_drop, List.length_take]
        rw [e2]; rfl
      · have h := HV.out
        have e : ((a : Int) + (n : Int)).toNat = a + n := by omega
        rw [e, Int.toNat_natCast] at h
        exact h
      · rw [List.length_drop, List.length_take]; omega
    · have hlt2 : ¬ a + n ≤ B.length := by rw [List.length_drop] at hlt; omega
      have d1 : decide ((B.length : Int) - (a : Int) < (n : Int)) = true := decide_eq_true (by omega)
      have d2 : decide ((n : Int) > (B.length : Int) - (a : Int)) = true := decide_eq_true (by omega)
      have er : (Left.read (.ok (B.drop a)) (takeR n)) = .error 61 := by
        unfold Left.read takeR
        simp only
        rw [if_neg hlt]
      rw [er]
      clear hlt er hlt2 ha1
      go_enter Tryd.func74, Tryd.ntmps74
      go_wp2
      go_quiet (fail)
      go_wp2_with (first
        | (go_at_call 75; (with_reducible refine (stop_ok 61 (by decide) (HS.out.drewN _)).mono ?_); rintro e w1 ⟨rfl, hs, hk⟩; have HS1 := Aside0.mk hs; have HK := Aside0.mk hk; clear hs hk))
      go_ret
      exact ⟨(KeepBut.drewN_ (KeepBut.refl _ _ _) _).trans HK.out (Or.inl rfl), [], _, _, rfl, ⟨none, 0, rfl, ReadsInt.nil _ _, Nat.zero_le _, by simp⟩, HS1.out, rfl⟩
/-- A number of so many bytes. -/
def ValU (m : Int) (x : Int) (_ : World) (v : Value) : Prop := v = .int .u64 x ∧ 0 ≤ x ∧ x < m
theorem numR_take {n : Nat} (l : List Int) : numR n l = (match takeR n l with | .ok (b, r) => .ok (numOf b, r) | .error c => .error c) := by
  unfold numR Rd.then
  cases takeR n l with
  | ok p => obtain ⟨b, r⟩ := p; rfl
  | error c => rfl
theorem add_byte (v x : Int) (h0 : 0 ≤ v) (h1 : v < 72057594037927936) (x0 : 0 ≤ x) (x1 : x ≤ 255) : IntKind.u64.wrap (IntKind.u64.wrap (v * 256) + IntKind.u64.wrap x) = v * 256 + x := by
  have e1 : IntKind.u64.wrap (v * 256) = v * 256 := by have := u64_eq (v * 256); unfold u64 at this; rw [this]; omega
  have e2 : IntKind.u64.wrap x = x := by have := u64_eq x; unfold u64 at this; rw [this]; omega
  rw [e1, e2]
  have := u64_eq (v * 256 + x); unfold u64 at this; rw [this]; omega
set_option maxHeartbeats 4000000 in
set_option maxRecDepth 100000 in
theorem number_s (w0 w : World) (rb : Nat) (B : List Int) (s : Left) (n : Nat) (hn : n ≤ 8) (hby : isBytes B) (h : Sst w0 w rb B s) :
    Calls Tryd.prog 98 #[.pointer (some ⟨rb, 0, none⟩), .int .i64 n] w (Gets w0 w rb B (s.read (numR n)) (ValU (256 ^ n))) := by
  have HT := Aside0.mk ((take_s w0 w rb B s n (by omega) h).mono (fun e w' hr => (show ∃ (bs : List Int) (A : Option Addr) (c : Nat) (s' : Left), e = .returned (.slice A bs.length c) ∧ ReadsInt w0 .u8 A bs.length bs ∧ Sst w0 w' rb B s' ∧ KeepBut w w' rb none ∧ Left.after (s.read (takeR n)) bs s' ∧ bs.length ≤ n ∧ isBytes bs from by
    obtain ⟨x, v, s', rfl, ⟨A, c, rfl, hA, hl, hm⟩, hs, ha⟩ := hr.ex
    exact ⟨x, A, c, s', rfl, hA, hs, hr.keep, ha, hl, fun c hc => hby c (hm c hc)⟩)))
  have HBL := Aside0.mk h.below
  have HAT := Aside0.mk h.at_
  have HN := Aside0.mk hn
  clear h hby hn
  go_enter Tryd.func98, Tryd.ntmps98
  go_wp2_with (first
    | (go_at_call 74; (with_reducible refine HT.out.mono ?_); rintro e w1 ⟨bs, A, c, s1, rfl, hA, hs, hk, ha, hle, hbb⟩; have HA := Aside0.mk hA; have HS := Aside0.mk hs; have HK := Aside0.mk hk; have HF := Aside0.mk ha; have HLE := Aside0.mk hle; have HBY := Aside0.mk hbb; have HLB := Aside0.mk hA.2.1; clear hA hs hk ha hle hbb))
  go_loopg [6, 7] bs.length (fun gg s6 s7 wr => ∃ i : Int, Aside0 (0 ≤ i ∧ i ≤ (bs.length : Int) ∧ (bs.length : Int) - i ≤ (gg : Int)) ∧ s7 = .int .i64 i ∧ s6 = .int .u64 (numOf (bs.take i.toNat)) ∧ Aside0 (wr = w1))
  case atStart => exact ⟨0, ⟨by omega, by omega, by omega⟩, rfl, rfl, ⟨rfl⟩⟩
  case round =>
    obtain ⟨i, HI, rfl, rfl, HW⟩ := hrel
    obtain rfl := HW.out
    by_cases hlt : i < (bs.length : Int)
    · have hltb : decide (i < (bs.length : Int)) = true := decide_eq_true hlt
      have hpos : 0 ≤ i := HI.out.1
      have HLT := Aside0.mk (show i.toNat < bs.length by omega)
      have HPOS := Aside0.mk hpos
      obtain ⟨ad, e0, h0⟩ := (HA.out.below HS.out.below).at_ i hpos hlt
      cases e0
      obtain ⟨x, hx⟩ : ∃ x, rd bs i = x := ⟨_, rfl⟩
      rw [hx] at h0
      have HX := Aside0.mk (show bs[i.toNat]'HLT.out = x by rw [← hx]; simp [rd, List.getD_eq_getElem?_getD, List.getElem?_eq_getElem HLT.out])
      obtain ⟨v, hv⟩ : ∃ v, numOf (bs.take i.toNat) = v := ⟨_, rfl⟩
      have HVV := Aside0.mk hv
      rw [hv]
      have hwr : wrap64 (i + 1) = i + 1 := by have := HN.out; have := HLE.out; simp only [wrap64]; omega
      have hlt' := eq_true hlt
      have hpos' := eq_true hpos
      clear hlt hpos hx hv
      go_wp2
      have HV := Aside0.mk (show IntKind.u64.wrap (IntKind.u64.wrap (v * 256) + IntKind.u64.wrap x) = numOf (bs.take (i + 1).toNat) by
        have e : (i + 1).toNat = i.toNat + 1 := by have := HPOS.out; omega
        have r1 := numOf_range (bs.take i.toNat) (fun c hc => HBY.out c (List.mem_of_mem_take hc))
        have r2 := HBY.out x (by rw [← HX.out]; exact List.getElem_mem _)
        have hle : (bs.take i.toNat).length ≤ 7 := by have := HLT.out; have := HLE.out; have := HN.out; rw [List.length_take]; omega
        have hp : (256 : Int) ^ (bs.take i.toNat).length ≤ 72057594037927936 := by
          have h := Int.ofNat_le.2 (Nat.pow_le_pow_right (n := 256) (by omega) hle)
          rw [Int.natCast_pow] at h
          exact h
        rw [HVV.out] at r1
        rw [add_byte v x r1.1 (by omega) r2.1 r2.2, e, List.take_succ_eq_append_getElem HLT.out, numOf_snoc, HX.out, HVV.out])
      go_roundg (bs.length - (i.toNat + 1))
      case measure => have := HI.out; have := HLT.out; omega
      case rel =>
        refine ⟨i + 1, ⟨by have := HPOS.out; omega, by have := HLT.out; omega, by have := HLT.out; have := HPOS.out; omega⟩, by first | rfl | (simp [hwr]; done) | go_num, by rw [← HV.out]; first | rfl | skip, ⟨rfl⟩⟩
    · have hltb : decide (i < (bs.length : Int)) = false := decide_eq_false hlt
      have HEND := Aside0.mk (show numOf (bs.take i.toNat) = numOf bs by rw [List.take_of_length_le (by omega)])
      clear hlt
      go_wp2
      go_ret
      refine ⟨HK.out, numOf bs, _, s1, rfl, ⟨by rw [← HEND.out]; rfl, ?_, ?_⟩, HS.out, ?_⟩
      · exact (numOf_range bs HBY.out).1
      · have h := (numOf_range bs HBY.out).2
        have h2 := Int.ofNat_le.2 (Nat.pow_le_pow_right (n := 256) (by omega) HLE.out)
        simp only [Int.natCast_pow] at h2
        exact Int.lt_of_lt_of_le h h2
      · have h := HF.out
        cases s with
        | error d => exact h
        | ok rest =>
          simp only [Left.read] at h ⊢
          rw [numR_take]
          cases hq : takeR n rest with
          | error d => rw [hq] at h; exact h
          | ok p =>
            obtain ⟨b, r⟩ := p
            rw [hq] at h
            obtain ⟨rfl, h2⟩ := h
            exact ⟨rfl, h2⟩
end Go.Proofs.YtdplpcedfkfajaaDoor.T
/- The walks of the document's reader: small, natural, text, term. -/
set_option linter.unusedVariables false
set_option linter.unusedSimpArgs false
namespace Go.Proofs.YtdplpcedfkfajaaDoor.T
open Go.RowKit Go.Proofs.YtdplpcedfkfajaaDoorW.PrintWords Go.Proofs.YtdplpcedfkfajaaDoorW.PrintLast
def Left.stop (s : Left) (c : Int) : Left := match s with | .ok _ => .error c | .error d => .error d
theorem stop_s {w0 w : World} {rb : Nat} {B : List Int} {s : Left} (c : Int) (hc : c ≠ 0) (h : Sst w0 w rb B s) :
    Calls Tryd.prog 75 #[.pointer (some ⟨rb, 0, none⟩), .int .i64 c] w fun e w' => e = .returned (.tuple #[]) ∧ Sst w0 w' rb B (s.stop c) ∧ KeepBut w w' rb none := by
  cases s with
  | ok rest => exact stop_calls c hc h
  | error d => exact stop_calls c hc h
section
variable {α β : Type} {s s1 s2 : Left} {r : Rd α} {f : α → Rd β} {x : α} {y : β}
theorem after_then (h : Left.after (s.read r) x s1) (k : Left.after (s1.read (f x)) y s2) : Left.after (s.read (r.then f)) y s2 := by
  cases s with
  | error c => simp only [Left.read, Left.after] at h; subst h; exact k
  | ok rest =>
    simp only [Left.read] at h ⊢
    unfold Rd.then
    cases hr : r rest with
    | error c => rw [hr] at h; simp only [Left.after] at h; subst h; exact k
    | ok p =>
      obtain ⟨z, l⟩ := p
      rw [hr] at h
      obtain ⟨rfl, rfl⟩ := h
      exact k
theorem after_give : Left.after (s.read (Rd.give x)) x s := by
  cases s with
  | error c => rfl
  | ok rest => exact ⟨rfl, rfl⟩
theorem after_fail {c : Int} : Left.after (s.read (Rd.fail c : Rd α)) x (s.stop c) := by
  cases s with
  | error c => rfl
  | ok rest => rfl
theorem after_need_true {b : Bool} {c : Int} (hb : b = true) : Left.after (s.read (needR b c)) () s := by subst hb; exact after_give
theorem after_need_false {b : Bool} {c : Int} (hb : b = false) : Left.after (s.read (needR b c)) () (s.stop c) := by subst hb; exact after_fail
theorem Left.stop_read {c : Int} : Left.after ((s.stop c).read r) x (s.stop c) := by cases s <;> rfl
end
section
variable {α : Type} {w0 w w' W W' : World} {rb : Nat} {B rest : List Int} {s s' : Left} {val : α → World → Value → Prop} {e : Ending} {x : α} {c : Int}
theorem Gets.okv {rest' : List Int} (h : Gets w0 w rb B (.ok (x, rest')) val e w') : ∃ v, e = .returned v ∧ val x w' v ∧ Sst w0 w' rb B (.ok rest') ∧ KeepBut w w' rb none := by
  obtain ⟨y, v, s1, h1, h2, h3, h4, h5⟩ := h.ex
  subst h4 h5
  exact ⟨v, h1, h2, h3, h.keep⟩
theorem Gets.nov (h : Gets w0 w rb B (.error c) val e w') : ∃ x v, e = .returned v ∧ val x w' v ∧ Sst w0 w' rb B (.error c) ∧ KeepBut w w' rb none := by
  obtain ⟨y, v, s1, h1, h2, h3, h4⟩ := h.ex
  have h4 : s1 = .error c := h4
  subst h4
  exact ⟨y, v, h1, h2, h3, h.keep⟩
/-- Where a walk over the document's reader stands. -/
structure RS (w0 w W : World) (rb : Nat) (B : List Int) (s : Left) : Prop where
  st : Sst w0 W rb B s
  keep : KeepBut w W rb none
  lt : rb < w.heap.size
theorem RS.start (h : Sst w0 w rb B s) : RS w0 w w rb B s := ⟨h, KeepBut.refl _ _ _, h.lt⟩
theorem RS.up (h : RS w0 w W rb B s) (hb : Below W.heap.size W W') : RS w0 w W' rb B s := by
  obtain ⟨A, c, a, e, hk, hc, hr, hx⟩ := h.st.ex
  exact ⟨⟨⟨A, c, a, e, blk_below hk hb, hc, hr, hx⟩, below_then h.st.below h.st.below.size hb, h.st.at_⟩, h.keep.trans (KeepBut.of_below hb rb none) (.inl rfl), h.lt⟩
theorem RS.set (h : RS w0 w W rb B s) {g : Nat} (hg : w.heap.size ≤ g) (j : Nat) (u : Value) : RS w0 w (W.setCell ⟨g, j, none⟩ u) rb B s := by
  obtain ⟨A, c, a, e, hk, hc, hr, hx⟩ := h.st.ex
  have hl := h.lt
  have ha := h.st.at_
  exact ⟨⟨⟨A, c, a, e, blk_far hk (p := ⟨g, j, none⟩) (show rb ≠ g by omega) u, hc, hr, hx⟩, h.st.below.setCell (show w0.heap.size ≤ g by omega) _, ha⟩, keep_far h.keep (p := ⟨g, j, none⟩) hg u, hl⟩
theorem RS.call (h : RS w0 w W rb B s) (hs : Sst w0 W' rb B s') (hk : KeepBut W W' rb none) : RS w0 w W' rb B s' := ⟨hs, h.keep.trans hk (.inl rfl), h.lt⟩
theorem RS.blk (h : RS w0 w W rb B s) {g : Nat} {o : Obj} (hb : W.heap[g]? = some o) (hg : w.heap.size ≤ g) (hk : KeepBut W W' rb none) : W'.heap[g]? = some o := hk.blk hb (by have := h.lt; omega) (by simp)
theorem RS.drewN (h : RS w0 w W rb B s) (m : Nat) : RS w0 w (W.drewN m) rb B s := ⟨h.st.drewN m, KeepBut.drewN_ h.keep m, h.lt⟩
theorem RS.set3 (h : RS w0 w W rb B s) {g : Nat} (hg : w.heap.size ≤ g) {x y z : Value} : RS w0 w (((W.setCell ⟨g, 0, none⟩ x).setCell ⟨g, 1, none⟩ y).setCell ⟨g, 2, none⟩ z) rb B s := ((h.set hg 0 x).set hg 1 y).set hg 2 z
theorem RS.set5 (h : RS w0 w W rb B s) {g : Nat} (hg : w.heap.size ≤ g) {x y z u v : Value} : RS w0 w (((((W.setCell ⟨g, 0, none⟩ x).setCell ⟨g, 1, none⟩ y).setCell ⟨g, 2, none⟩ z).setCell ⟨g, 3, none⟩ u).setCell ⟨g, 4, none⟩ v) rb B s := ((h.set3 hg).set hg 3 u).set hg 4 v
theorem RS.gives {r : Except Int (α × List Int)} {v : Value} (h : RS w0 w W rb B s) (hv : val x W v) (ha : Left.after r x s) : Gets w0 w rb B r val (.returned v) W := ⟨h.keep, x, v, s, rfl, hv, h.st, ha⟩
/-- The fault's cell. -/
theorem Sst.err_ok (h : Sst w0 W rb B (.ok rest)) : W.cell? ⟨rb, 2, none⟩ = some (.int .i64 0) := by
  obtain ⟨A, c, a, e, hk, _, _, _, _, he, _⟩ := h.ex
  subst he
  exact (blk_cell hk 2).trans rfl
theorem Sst.err_no (h : Sst w0 W rb B (.error c)) : W.cell? ⟨rb, 2, none⟩ = some (.int .i64 c) ∧ c ≠ 0 := by
  obtain ⟨A, cp, a, e, hk, _, _, _, _, he, hn⟩ := h.ex
  subst he
  exact ⟨(blk_cell hk 2).trans rfl, hn⟩
theorem Sst.bytes (hby : isBytes B) (h : Sst w0 W rb B (.ok rest)) : isBytes rest := by
  obtain ⟨A, c, a, e, hk, _, _, _, _, he, hd⟩ := h.ex
  rw [← hd]
  exact fun c hc => hby c (List.mem_of_mem_drop hc)
end
theorem number_s1 (w0 w : World) (rb : Nat) (B : List Int) (s : Left) (hby : isBytes B) (h : Sst w0 w rb B s) :
    Calls Tryd.prog 98 #[.pointer (some ⟨rb, 0, none⟩), .int .i64 1] w (Gets w0 w rb B (s.read (numR 1)) (ValU 256)) := number_s w0 w rb B s 1 (by omega) hby h
theorem number_s8 (w0 w : World) (rb : Nat) (B : List Int) (s : Left) (hby : isBytes B) (h : Sst w0 w rb B s) :
    Calls Tryd.prog 98 #[.pointer (some ⟨rb, 0, none⟩), .int .i64 8] w (Gets w0 w rb B (s.read (numR 8)) (ValU 18446744073709551616)) := number_s w0 w rb B s 8 (by omega) hby h
/-- A small number. -/
def ValN (x : Int) (_ : World) (v : Value) : Prop := v = .int .i64 x ∧ 0 ≤ x ∧ x ≤ 255
set_option maxHeartbeats 4000000 in
set_option maxRecDepth 100000 in
theorem small_s (w0 w : World) (rb : Nat) (B : List Int) (s : Left) (lo hi : Int) (hby : isBytes B) (h : Sst w0 w rb B s) :
    Calls Tryd.prog 73 #[.pointer (some ⟨rb, 0, none⟩), .int .i64 lo, .int .i64 hi] w (Gets w0 w rb B (s.read (smallR lo hi)) ValN) := by
  have HS := Aside0.mk h
  clear h
  go_enter Tryd.func73, Tryd.ntmps73
  go_wp2_with (first
    | (go_at_call 98; (with_reducible refine (number_s1 w0 _ rb B s hby HS.out).mono ?_); rintro e w1 hr; obtain ⟨x, v, s1, rfl, ⟨rfl, x0, x1⟩, hs, ha⟩ := hr.ex; have HK := Aside0.mk hr.keep; have HA := Aside0.mk ha; have H1 := Aside0.mk hs; have HX := Aside0.mk (And.intro x0 x1); have hwr : wrap64 x = x := (by simp only [wrap64]; omega); clear hr ha hs x0 x1)
    | (go_at_call 75; (with_reducible refine (stop_s 63 (by decide) H1.out).mono ?_); rintro e w2 ⟨rfl, hs, hk⟩; have H2 := Aside0.mk hs; have HK2 := Aside0.mk (HK.out.trans hk (Or.inl rfl)); have HF := Aside0.mk (show Left.after (s.read (smallR lo hi)) 0 (s1.stop 63) from after_then HA.out (after_then (after_need_false (by simp; omega)) Left.stop_read)); clear hs hk))
  all_goals go_ret
  all_goals first
    | exact ⟨HK2.out, 0, _, _, rfl, ⟨rfl, by omega, by omega⟩, H2.out, HF.out⟩
    | exact ⟨HK.out, x, _, s1, rfl, ⟨by first | rfl | (simp [hwr]; done), HX.out.1, by have := HX.out.2; omega⟩, H1.out, after_then HA.out (after_then (after_need_true (by simp; omega)) after_give)⟩
set_option maxHeartbeats 4000000 in
set_option maxRecDepth 100000 in
theorem natural_s (w0 w : World) (rb : Nat) (B : List Int) (s : Left) (hby : isBytes B) (h : Sst w0 w rb B s) :
    Calls Tryd.prog 100 #[.pointer (some ⟨rb, 0, none⟩)] w (Gets w0 w rb B (s.read natR) (ValI .i64)) := by
  have HS := Aside0.mk h
  clear h
  go_enter Tryd.func100, Tryd.ntmps100
  go_wp2_with (first
    | (go_at_call 98; (with_reducible refine (number_s8 w0 _ rb B s hby HS.out).mono ?_); rintro e w1 hr; obtain ⟨x, v, s1, rfl, ⟨rfl, x0, x1⟩, hs, ha⟩ := hr.ex; have HK := Aside0.mk hr.keep; have HA := Aside0.mk ha; have H1 := Aside0.mk hs; have HX := Aside0.mk (And.intro x0 x1); clear hr ha hs x0 x1)
    | (go_at_call 75; (with_reducible refine (stop_s 63 (by decide) H1.out).mono ?_); rintro e w2 ⟨rfl, hs, hk⟩; have H2 := Aside0.mk hs; have HK2 := Aside0.mk (HK.out.trans hk (Or.inl rfl)); have HF := Aside0.mk (show Left.after (s.read natR) 0 (s1.stop 63) from after_then HA.out (after_then (after_need_false (by simp; omega)) Left.stop_read)); clear hs hk))
  all_goals go_ret
  all_goals first
    | exact ⟨HK2.out, 0, _, _, rfl, rfl, H2.out, HF.out⟩
    | exact ⟨HK.out, x, _, s1, rfl, (by have h1 := HX.out.1; have hwr : wrap64 x = x := (by simp only [wrap64]; omega); simp [ValI, hwr]), H1.out, after_then HA.out (after_then (after_need_true (by simp; omega)) after_give)⟩
/-- A text of the document's: its length from L to 64, and its bytes. -/
def textR (L : Int) : Rd Tm := (smallR L 64).then fun n => (takeR n.toNat).then fun b => Rd.give ⟨2, 0, strOf b⟩
set_option maxHeartbeats 4000000 in
set_option maxRecDepth 100000 in
theorem text_s (w0 w : World) (rb : Nat) (B : List Int) (s : Left) (L : Int) (hby : isBytes B) (h : Sst w0 w rb B s) :
    Calls Tryd.prog 99 #[.pointer (some ⟨rb, 0, none⟩), .int .i64 L] w (Gets w0 w rb B (s.read (textR L)) ValT) := by
  have hu23 := Tryd.underlying23
  have HS := Aside0.mk (RS.start h)
  clear h
  go_enter Tryd.func99, Tryd.ntmps99
  go_wp2_with (first
    | ((with_reducible refine gate_dst (N := 4) rfl ?_); refine box_event ?hg (N := 4) ?hd (cs := #[.int .i64 0, .int .i64 0, .string (⟨#[]⟩ : ByteArray)]) (t := 23) ?hr ?_; (case hd => rfl); (case hg => rfl); (case hr => first | (go_simp; done) | (go_simp; rfl)); intro b4 hb4 wb4 hbox hb; have H1 := Aside0.mk (HS.out.up hb); have B4 := Aside0.mk hbox; have G4 := Aside0.mk (show w.heap.size ≤ b4 by have := (HS.out.keep).1; omega); clear hb4 hbox hb; have q40 := (blk_cell B4.out 0).trans rfl; have z40 := blk_frozen B4.out 0; have q41 := (blk_cell B4.out 1).trans rfl; have z41 := blk_frozen B4.out 1; have q42 := (blk_cell B4.out 2).trans rfl; have z42 := blk_frozen B4.out 2)
    | (go_at_call 73; (with_reducible refine (small_s w0 _ rb B s L 64 hby H1.out.st).mono ?_); rintro e w1 hr; obtain ⟨x, v, s1, rfl, ⟨rfl, x0, x1⟩, hs, ha⟩ := hr.ex; have HA := Aside0.mk ha; replace B4 := Aside0.mk (H1.out.blk B4.out G4.out hr.keep); have H2 := Aside0.mk (H1.out.call hs hr.keep); obtain ⟨n, rfl⟩ := Int.eq_ofNat_of_zero_le x0; have HN := Aside0.mk (show n ≤ 4611686018427387904 by omega); clear hr ha hs x0 x1 q40 z40 q41 z41 q42 z42; have q40 := (blk_cell B4.out 0).trans rfl; have z40 := blk_frozen B4.out 0; have q41 := (blk_cell B4.out 1).trans rfl; have z41 := blk_frozen B4.out 1; have q42 := (blk_cell B4.out 2).trans rfl; have z42 := blk_frozen B4.out 2)
    | (go_at_call 74; (with_reducible refine (take_s w0 _ rb B s1 n HN.out H2.out.st).mono ?_); rintro e w2 hr; obtain ⟨bs, v, s2, rfl, ⟨A, c, rfl, hA, hl, hm⟩, hs, ha⟩ := hr.ex; have HA2 := Aside0.mk ha; replace B4 := Aside0.mk (H2.out.blk B4.out G4.out hr.keep); have H3 := Aside0.mk (H2.out.call hs hr.keep); have hstr := string_of_reads (P := Tryd.prog) (src := 27) (dst := 9) (c := c) Tryd.underlying27 Tryd.underlying5 Tryd.underlying9 (hA.below hs.below); clear hr ha hs hA hl hm q40 z40 q41 z41 q42 z42; have q40 := (blk_cell B4.out 0).trans rfl; have z40 := blk_frozen B4.out 0; have q41 := (blk_cell B4.out 1).trans rfl; have z41 := blk_frozen B4.out 1; have q42 := (blk_cell B4.out 2).trans rfl; have z42 := blk_frozen B4.out 2))
  refine bodyPost_ret (results_cell_row rfl _ _ b4 23 #[(.int .i64 2), (.int .i64 0), (.string (strOf bs))] (0, 0) _ rfl (blk3 (B4.out)) Tryd.underlying23 rfl (by kernel_rfl)) rfl ?_
  exact RS.gives (val := ValT) (x := (⟨2, 0, strOf bs⟩ : Tm)) (H3.out.set3 G4.out) rfl (after_then HA.out (after_then (by rw [Int.toNat_natCast]; exact HA2.out) after_give))
theorem smallR_num {lo hi k : Int} {l r : List Int} (h : smallR lo hi l = .ok (k, r)) : numR 1 l = .ok (k, r) ∧ lo ≤ k ∧ k ≤ hi := by
  unfold smallR Rd.then at h
  cases hn : numR 1 l with
  | error c => rw [hn] at h; cases h
  | ok p =>
    obtain ⟨m, r'⟩ := p
    rw [hn] at h
    simp only [needR] at h
    by_cases hb : (decide (lo ≤ m) && decide (m ≤ hi)) = true
    · rw [if_pos hb] at h
      simp only [Rd.give] at h
      injection h with h
      injection h with h3 h4
      subst h3 h4
      simp only [Bool.and_eq_true, decide_eq_true_eq] at hb
      exact ⟨rfl, hb.1, hb.2⟩
    · rw [if_neg hb] at h; cases h
theorem termR_small {K L c : Int} {l : List Int} (hby : isBytes l) (h : smallR 0 3 l = .error c) : termR K L l = .error c := by
  unfold smallR Rd.then at h
  cases hn : numR 1 l with
  | error d => rw [hn] at h; injection h with h; subst h; exact termR_err hn
  | ok p =>
    obtain ⟨m, r'⟩ := p
    rw [hn] at h
    obtain ⟨n0, n1, _⟩ := numR_ok hby hn
    simp only [needR] at h
    by_cases hb : (decide (0 ≤ m) && decide (m ≤ 3)) = true
    · rw [if_pos hb] at h; cases h
    · rw [if_neg hb] at h
      simp only [Rd.fail] at h
      injection h with h
      subst h
      refine termR_bad hn ?_
      have hm : ¬ m ≤ 3 := by
        intro hm
        exact hb (by rw [decide_eq_true n0, decide_eq_true hm]; rfl)
      unfold kindOk
      rw [decide_eq_false hm]; rfl
set_option maxHeartbeats 8000000 in
set_option maxRecDepth 100000 in
theorem term_s13 (w0 w : World) (rb : Nat) (B : List Int) (s : Left) (hby : isBytes B) (h : Sst w0 w rb B s) :
    Calls Tryd.prog 72 #[.pointer (some ⟨rb, 0, none⟩), .bool true, .bool false, .bool true] w (Gets w0 w rb B (s.read (termR 13 1)) ValT) := by
  have hu23 := Tryd.underlying23
  have HS := Aside0.mk (RS.start h)
  cases hq : s.read (smallR 0 3) with
  | error d =>
    have er : s.read (termR 13 1) = .error d := by
      cases s with
      | error c => injection hq with hq; rw [hq]; rfl
      | ok rest => exact termR_small (h.bytes hby) hq
    rw [er]
    have HN1 := Aside0.mk (show ∀ e w' W, Gets w0 W rb B (s.read (smallR 0 3)) ValN e w' → ∃ x v, e = .returned v ∧ ValN x w' v ∧ Sst w0 w' rb B (.error d) ∧ KeepBut W w' rb none from fun e w' W hr => by rw [hq] at hr; exact hr.nov)
    clear h hq er
    go_enter Tryd.func72, Tryd.ntmps72
    go_wp2_with (first
      | ((with_reducible refine gate_dst (N := 8) rfl ?_); refine box_event ?hg (N := 8) ?hd (cs := #[.int .i64 0, .int .i64 0, .string (⟨#[]⟩ : ByteArray)]) (t := 23) ?hr ?_; (case hd => rfl); (case hg => rfl); (case hr => first | (go_simp; done) | (go_simp; rfl)); intro b8 hb8 wb8 hbox hb; have H1 := Aside0.mk (HS.out.up hb); have B8 := Aside0.mk hbox; have G8 := Aside0.mk (show w.heap.size ≤ b8 by have := (HS.out.keep).1; omega); clear hb8 hbox hb; have q80 := (blk_cell B8.out 0).trans rfl; have z80 := blk_frozen B8.out 0; have q81 := (blk_cell B8.out 1).trans rfl; have z81 := blk_frozen B8.out 1; have q82 := (blk_cell B8.out 2).trans rfl; have z82 := blk_frozen B8.out 2)
      | (go_at_call 73; (with_reducible refine ((small_s w0 _ rb B s 0 3 hby H1.out.st).mono (fun e w' hr => HN1.out e w' _ hr)).mono ?_); rintro e w1 ⟨x, v, rfl, ⟨rfl, x0, x1⟩, hs, hk⟩; replace B8 := Aside0.mk (H1.out.blk B8.out G8.out hk); have H2 := Aside0.mk (H1.out.call hs hk); obtain ⟨p2, hd⟩ := hs.err_no; have d0 : (d == 0) = false := (by simpa using hd); have d1 : (d != 0) = true := (by simpa using hd); clear x0 x1 hd; clear hs hk q80 z80 q81 z81 q82 z82; have q80 := (blk_cell B8.out 0).trans rfl; have z80 := blk_frozen B8.out 0; have q81 := (blk_cell B8.out 1).trans rfl; have z81 := blk_frozen B8.out 1; have q82 := (blk_cell B8.out 2).trans rfl; have z82 := blk_frozen B8.out 2))
    refine bodyPost_ret (results_cell_row rfl _ _ b8 23 #[(.int .i64 0), (.int .i64 0), (.string (⟨#[]⟩ : ByteArray))] (0, 0) _ rfl (blk3 (B8.out)) Tryd.underlying23 rfl (by kernel_rfl)) rfl ?_
    exact RS.gives (val := ValT) (x := (⟨0, 0, (⟨#[]⟩ : ByteArray)⟩ : Tm)) (H2.out.set3 G8.out) rfl rfl
  | ok p =>
    obtain ⟨k, r1⟩ := p
    have hz : ∃ rest, s = .ok rest := by
      cases s with
      | error c => cases hq
      | ok rest => exact ⟨rest, rfl⟩
    obtain ⟨rest, rfl⟩ := hz
    obtain ⟨hn, k0, k3⟩ := smallR_num (show smallR 0 3 rest = .ok (k, r1) from hq)
    have HN1 := Aside0.mk (show ∀ e w' W, Gets w0 W rb B (Left.read (Except.ok rest) (smallR 0 3)) ValN e w' → ∃ v, e = .returned v ∧ ValN k w' v ∧ Sst w0 w' rb B (.ok r1) ∧ KeepBut W w' rb none from fun e w' W hr => by rw [hq] at hr; exact hr.okv)
    clear h hq
    by_cases h0 : k = 0
    · subst h0
      clear k0 k3
      have HE := Aside0.mk (show Left.read (Except.ok rest) (termR 13 1) = Left.read (Except.ok r1) (Rd.give ⟨0, 0, ⟨#[]⟩⟩) by change termR 13 1 rest = _; rw [termR_go hn (by decide), if_neg (by decide), if_neg (by decide), if_neg (by decide)]; rfl)
      rw [HE.out]
      clear hn
      go_enter Tryd.func72, Tryd.ntmps72
      go_wp2_with (first
        | ((with_reducible refine gate_dst (N := 8) rfl ?_); refine box_event ?hg (N := 8) ?hd (cs := #[.int .i64 0, .int .i64 0, .string (⟨#[]⟩ : ByteArray)]) (t := 23) ?hr ?_; (case hd => rfl); (case hg => rfl); (case hr => first | (go_simp; done) | (go_simp; rfl)); intro b8 hb8 wb8 hbox hb; have H1 := Aside0.mk (HS.out.up hb); have B8 := Aside0.mk hbox; have G8 := Aside0.mk (show w.heap.size ≤ b8 by have := (HS.out.keep).1; omega); clear hb8 hbox hb; have q80 := (blk_cell B8.out 0).trans rfl; have z80 := blk_frozen B8.out 0; have q81 := (blk_cell B8.out 1).trans rfl; have z81 := blk_frozen B8.out 1; have q82 := (blk_cell B8.out 2).trans rfl; have z82 := blk_frozen B8.out 2)
        | (go_at_call 73; (with_reducible refine ((small_s w0 _ rb B (.ok rest) 0 3 hby H1.out.st).mono (fun e w' hr => HN1.out e w' _ hr)).mono ?_); rintro e w1 ⟨v, rfl, ⟨rfl, x0, x1⟩, hs, hk⟩; replace B8 := Aside0.mk (H1.out.blk B8.out G8.out hk); have H2 := Aside0.mk (H1.out.call hs hk); have p2 := hs.err_ok; clear x0 x1; clear hs hk q80 z80 q81 z81 q82 z82; have q80 := (blk_cell B8.out 0).trans rfl; have z80 := blk_frozen B8.out 0; have q81 := (blk_cell B8.out 1).trans rfl; have z81 := blk_frozen B8.out 1; have q82 := (blk_cell B8.out 2).trans rfl; have z82 := blk_frozen B8.out 2))
      refine bodyPost_ret (results_cell_row rfl _ _ b8 23 #[(.int .i64 0), (.int .i64 0), (.string (⟨#[]⟩ : ByteArray))] (0, 0) _ rfl (blk3 (B8.out)) Tryd.underlying23 rfl (by kernel_rfl)) rfl ?_
      exact RS.gives (val := ValT) (x := (⟨0, 0, (⟨#[]⟩ : ByteArray)⟩ : Tm)) (H2.out.set3 G8.out) rfl after_give
    by_cases h1 : k = 1
    · subst h1
      clear k0 k3
      have HE := Aside0.mk (show Left.read (Except.ok rest) (termR 13 1) = .error 63 from termR_bad hn (by decide))
      rw [HE.out]
      clear hn
      go_enter Tryd.func72, Tryd.ntmps72
      go_wp2_with (first
        | ((with_reducible refine gate_dst (N := 8) rfl ?_); refine box_event ?hg (N := 8) ?hd (cs := #[.int .i64 0, .int .i64 0, .string (⟨#[]⟩ : ByteArray)]) (t := 23) ?hr ?_; (case hd => rfl); (case hg => rfl); (case hr => first | (go_simp; done) | (go_simp; rfl)); intro b8 hb8 wb8 hbox hb; have H1 := Aside0.mk (HS.out.up hb); have B8 := Aside0.mk hbox; have G8 := Aside0.mk (show w.heap.size ≤ b8 by have := (HS.out.keep).1; omega); clear hb8 hbox hb; have q80 := (blk_cell B8.out 0).trans rfl; have z80 := blk_frozen B8.out 0; have q81 := (blk_cell B8.out 1).trans rfl; have z81 := blk_frozen B8.out 1; have q82 := (blk_cell B8.out 2).trans rfl; have z82 := blk_frozen B8.out 2)
        | (go_at_call 73; (with_reducible refine ((small_s w0 _ rb B (.ok rest) 0 3 hby H1.out.st).mono (fun e w' hr => HN1.out e w' _ hr)).mono ?_); rintro e w1 ⟨v, rfl, ⟨rfl, x0, x1⟩, hs, hk⟩; replace B8 := Aside0.mk (H1.out.blk B8.out G8.out hk); have H2 := Aside0.mk (H1.out.call hs hk); have p2 := hs.err_ok; clear x0 x1; clear hs hk q80 z80 q81 z81 q82 z82; have q80 := (blk_cell B8.out 0).trans rfl; have z80 := blk_frozen B8.out 0; have q81 := (blk_cell B8.out 1).trans rfl; have z81 := blk_frozen B8.out 1; have q82 := (blk_cell B8.out 2).trans rfl; have z82 := blk_frozen B8.out 2)
        | (go_at_call 75; (with_reducible refine (stop_s 63 (by decide) H2.out.st).mono ?_); rintro e w2 ⟨rfl, hs, hk⟩; replace B8 := Aside0.mk (H2.out.blk B8.out G8.out hk); have H3 := Aside0.mk (H2.out.call hs hk); clear hs hk q80 z80 q81 z81 q82 z82 p2; have q80 := (blk_cell B8.out 0).trans rfl; have z80 := blk_frozen B8.out 0; have q81 := (blk_cell B8.out 1).trans rfl; have z81 := blk_frozen B8.out 1; have q82 := (blk_cell B8.out 2).trans rfl; have z82 := blk_frozen B8.out 2))
      refine bodyPost_ret (results_cell_row rfl _ _ b8 23 #[(.int .i64 0), (.int .i64 0), (.string (⟨#[]⟩ : ByteArray))] (0, 0) _ rfl (blk3 (B8.out)) Tryd.underlying23 rfl (by kernel_rfl)) rfl ?_
      exact RS.gives (val := ValT) (x := (⟨0, 0, (⟨#[]⟩ : ByteArray)⟩ : Tm)) (H3.out.set3 G8.out) rfl rfl
    by_cases h2 : k = 2
    · subst h2
      clear k0 k3
      have HE := Aside0.mk (show Left.read (Except.ok rest) (termR 13 1) = Left.read (Except.ok r1) (textR 1) by change termR 13 1 rest = _; rw [termR_go hn (by decide), if_neg (by decide), if_neg (by decide), if_pos rfl]; rfl)
      rw [HE.out]
      clear hn
      go_enter Tryd.func72, Tryd.ntmps72
      go_wp2_with (first
        | ((with_reducible refine gate_dst (N := 8) rfl ?_); refine box_event ?hg (N := 8) ?hd (cs := #[.int .i64 0, .int .i64 0, .string (⟨#[]⟩ : ByteArray)]) (t := 23) ?hr ?_; (case hd => rfl); (case hg => rfl); (case hr => first | (go_simp; done) | (go_simp; rfl)); intro b8 hb8 wb8 hbox hb; have H1 := Aside0.mk (HS.out.up hb); have B8 := Aside0.mk hbox; have G8 := Aside0.mk (show w.heap.size ≤ b8 by have := (HS.out.keep).1; omega); clear hb8 hbox hb; have q80 := (blk_cell B8.out 0).trans rfl; have z80 := blk_frozen B8.out 0; have q81 := (blk_cell B8.out 1).trans rfl; have z81 := blk_frozen B8.out 1; have q82 := (blk_cell B8.out 2).trans rfl; have z82 := blk_frozen B8.out 2)
        | (go_at_call 73; (with_reducible refine ((small_s w0 _ rb B (.ok rest) 0 3 hby H1.out.st).mono (fun e w' hr => HN1.out e w' _ hr)).mono ?_); rintro e w1 ⟨v, rfl, ⟨rfl, x0, x1⟩, hs, hk⟩; replace B8 := Aside0.mk (H1.out.blk B8.out G8.out hk); have H2 := Aside0.mk (H1.out.call hs hk); have p2 := hs.err_ok; clear x0 x1; clear hs hk q80 z80 q81 z81 q82 z82; have q80 := (blk_cell B8.out 0).trans rfl; have z80 := blk_frozen B8.out 0; have q81 := (blk_cell B8.out 1).trans rfl; have z81 := blk_frozen B8.out 1; have q82 := (blk_cell B8.out 2).trans rfl; have z82 := blk_frozen B8.out 2)
        | (go_at_call 99; (with_reducible refine (text_s w0 _ rb B _ 1 hby H2.out.st).mono ?_); rintro e w2 hr; obtain ⟨t, v, s2, rfl, rfl, hs, ha⟩ := hr.ex; replace B8 := Aside0.mk (H2.out.blk B8.out G8.out hr.keep); have H3 := Aside0.mk (H2.out.call hs hr.keep); have HA := Aside0.mk ha; clear hr ha hs q80 z80 q81 z81 q82 z82 p2; have q80 := (blk_cell B8.out 0).trans rfl; have z80 := blk_frozen B8.out 0; have q81 := (blk_cell B8.out 1).trans rfl; have z81 := blk_frozen B8.out 1; have q82 := (blk_cell B8.out 2).trans rfl; have z82 := blk_frozen B8.out 2))
      refine bodyPost_ret (results_cell_row rfl _ _ b8 23 #[(.int .i64 t.f0), (.int .i64 t.f1), (.string t.f2)] (0, 0) _ rfl (blk3 (B8.out)) Tryd.underlying23 rfl (by kernel_rfl)) rfl ?_
      exact RS.gives (val := ValT) (x := (⟨t.f0, t.f1, t.f2⟩ : Tm)) (H3.out.set3 G8.out) rfl HA.out
    obtain rfl : k = 3 := by omega
    clear k0 k3
    have HE := Aside0.mk (show Left.read (Except.ok rest) (termR 13 1) = Left.read (Except.ok r1) (natR.then fun n => Rd.give (⟨3, n, ⟨#[]⟩⟩ : Tm)) by change termR 13 1 rest = _; rw [termR_go hn (by decide), if_neg (by decide), if_pos rfl]; rfl)
    rw [HE.out]
    clear hn
    go_enter Tryd.func72, Tryd.ntmps72
    go_wp2_with (first
      | ((with_reducible refine gate_dst (N := 8) rfl ?_); refine box_event ?hg (N := 8) ?hd (cs := #[.int .i64 0, .int .i64 0, .string (⟨#[]⟩ : ByteArray)]) (t := 23) ?hr ?_; (case hd => rfl); (case hg => rfl); (case hr => first | (go_simp; done) | (go_simp; rfl)); intro b8 hb8 wb8 hbox hb; have H1 := Aside0.mk (HS.out.up hb); have B8 := Aside0.mk hbox; have G8 := Aside0.mk (show w.heap.size ≤ b8 by have := (HS.out.keep).1; omega); clear hb8 hbox hb; have q80 := (blk_cell B8.out 0).trans rfl; have z80 := blk_frozen B8.out 0; have q81 := (blk_cell B8.out 1).trans rfl; have z81 := blk_frozen B8.out 1; have q82 := (blk_cell B8.out 2).trans rfl; have z82 := blk_frozen B8.out 2)
      | (go_at_call 73; (with_reducible refine ((small_s w0 _ rb B (.ok rest) 0 3 hby H1.out.st).mono (fun e w' hr => HN1.out e w' _ hr)).mono ?_); rintro e w1 ⟨v, rfl, ⟨rfl, x0, x1⟩, hs, hk⟩; replace B8 := Aside0.mk (H1.out.blk B8.out G8.out hk); have H2 := Aside0.mk (H1.out.call hs hk); have p2 := hs.err_ok; clear x0 x1; clear hs hk q80 z80 q81 z81 q82 z82; have q80 := (blk_cell B8.out 0).trans rfl; have z80 := blk_frozen B8.out 0; have q81 := (blk_cell B8.out 1).trans rfl; have z81 := blk_frozen B8.out 1; have q82 := (blk_cell B8.out 2).trans rfl; have z82 := blk_frozen B8.out 2)
      | (go_at_call 100; (with_reducible refine (natural_s w0 _ rb B _ hby H2.out.st).mono ?_); rintro e w2 hr; obtain ⟨n, v, s2, rfl, rfl, hs, ha⟩ := hr.ex; replace B8 := Aside0.mk (H2.out.blk B8.out G8.out hr.keep); have H3 := Aside0.mk (H2.out.call hs hr.keep); have HA := Aside0.mk ha; clear hr ha hs q80 z80 q81 z81 q82 z82 p2; have q80 := (blk_cell B8.out 0).trans rfl; have z80 := blk_frozen B8.out 0; have q81 := (blk_cell B8.out 1).trans rfl; have z81 := blk_frozen B8.out 1; have q82 := (blk_cell B8.out 2).trans rfl; have z82 := blk_frozen B8.out 2))
    refine bodyPost_ret (results_cell_row rfl _ _ b8 23 #[(.int .i64 3), (.int .i64 n), (.string (⟨#[]⟩ : ByteArray))] (0, 0) _ rfl (blk3 (B8.out)) Tryd.underlying23 rfl (by kernel_rfl)) rfl ?_
    exact RS.gives (val := ValT) (x := (⟨3, n, (⟨#[]⟩ : ByteArray)⟩ : Tm)) (H3.out.set3 G8.out) rfl (after_then HA.out after_give)
set_option maxHeartbeats 8000000 in
set_option maxRecDepth 100000 in
theorem term_s14 (w0 w : World) (rb : Nat) (B : List Int) (s : Left) (hby : isBytes B) (h : Sst w0 w rb B s) :
    Calls Tryd.prog 72 #[.pointer (some ⟨rb, 0, none⟩), .bool false, .bool true, .bool true] w (Gets w0 w rb B (s.read (termR 14 0)) ValT) := by
  have hu23 := Tryd.underlying23
  have HS := Aside0.mk (RS.start h)
  cases hq : s.read (smallR 0 3) with
  | error d =>
    have er : s.read (termR 14 0) = .error d := by
      cases s with
      | error c => injection hq with hq; rw [hq]; rfl
      | ok rest => exact termR_small (h.bytes hby) hq
    rw [er]
    have HN1 := Aside0.mk (show ∀ e w' W, Gets w0 W rb B (s.read (smallR 0 3)) ValN e w' → ∃ x v, e = .returned v ∧ ValN x w' v ∧ Sst w0 w' rb B (.error d) ∧ KeepBut W w' rb none from fun e w' W hr => by rw [hq] at hr; exact hr.nov)
    clear h hq er
    go_enter Tryd.func72, Tryd.ntmps72
    go_wp2_with (first
      | ((with_reducible refine gate_dst (N := 8) rfl ?_); refine box_event ?hg (N := 8) ?hd (cs := #[.int .i64 0, .int .i64 0, .string (⟨#[]⟩ : ByteArray)]) (t := 23) ?hr ?_; (case hd => rfl); (case hg => rfl); (case hr => first | (go_simp; done) | (go_simp; rfl)); intro b8 hb8 wb8 hbox hb; have H1 := Aside0.mk (HS.out.up hb); have B8 := Aside0.mk hbox; have G8 := Aside0.mk (show w.heap.size ≤ b8 by have := (HS.out.keep).1; omega); clear hb8 hbox hb; have q80 := (blk_cell B8.out 0).trans rfl; have z80 := blk_frozen B8.out 0; have q81 := (blk_cell B8.out 1).trans rfl; have z81 := blk_frozen B8.out 1; have q82 := (blk_cell B8.out 2).trans rfl; have z82 := blk_frozen B8.out 2)
      | (go_at_call 73; (with_reducible refine ((small_s w0 _ rb B s 0 3 hby H1.out.st).mono (fun e w' hr => HN1.out e w' _ hr)).mono ?_); rintro e w1 ⟨x, v, rfl, ⟨rfl, x0, x1⟩, hs, hk⟩; replace B8 := Aside0.mk (H1.out.blk B8.out G8.out hk); have H2 := Aside0.mk (H1.out.call hs hk); obtain ⟨p2, hd⟩ := hs.err_no; have d0 : (d == 0) = false := (by simpa using hd); have d1 : (d != 0) = true := (by simpa using hd); clear x0 x1 hd; clear hs hk q80 z80 q81 z81 q82 z82; have q80 := (blk_cell B8.out 0).trans rfl; have z80 := blk_frozen B8.out 0; have q81 := (blk_cell B8.out 1).trans rfl; have z81 := blk_frozen B8.out 1; have q82 := (blk_cell B8.out 2).trans rfl; have z82 := blk_frozen B8.out 2))
    refine bodyPost_ret (results_cell_row rfl _ _ b8 23 #[(.int .i64 0), (.int .i64 0), (.string (⟨#[]⟩ : ByteArray))] (0, 0) _ rfl (blk3 (B8.out)) Tryd.underlying23 rfl (by kernel_rfl)) rfl ?_
    exact RS.gives (val := ValT) (x := (⟨0, 0, (⟨#[]⟩ : ByteArray)⟩ : Tm)) (H2.out.set3 G8.out) rfl rfl
  | ok p =>
    obtain ⟨k, r1⟩ := p
    have hz : ∃ rest, s = .ok rest := by
      cases s with
      | error c => cases hq
      | ok rest => exact ⟨rest, rfl⟩
    obtain ⟨rest, rfl⟩ := hz
    obtain ⟨hn, k0, k3⟩ := smallR_num (show smallR 0 3 rest = .ok (k, r1) from hq)
    have HN1 := Aside0.mk (show ∀ e w' W, Gets w0 W rb B (Left.read (Except.ok rest) (smallR 0 3)) ValN e w' → ∃ v, e = .returned v ∧ ValN k w' v ∧ Sst w0 w' rb B (.ok r1) ∧ KeepBut W w' rb none from fun e w' W hr => by rw [hq] at hr; exact hr.okv)
    clear h hq
    by_cases h0 : k = 0
    · subst h0
      clear k0 k3
      have HE := Aside0.mk (show Left.read (Except.ok rest) (termR 14 0) = .error 63 from termR_bad hn (by decide))
      rw [HE.out]
      clear hn
      go_enter Tryd.func72, Tryd.ntmps72
      go_wp2_with (first
        | ((with_reducible refine gate_dst (N := 8) rfl ?_); refine box_event ?hg (N := 8) ?hd (cs := #[.int .i64 0, .int .i64 0, .string (⟨#[]⟩ : ByteArray)]) (t := 23) ?hr ?_; (case hd => rfl); (case hg => rfl); (case hr => first | (go_simp; done) | (go_simp; rfl)); intro b8 hb8 wb8 hbox hb; have H1 := Aside0.mk (HS.out.up hb); have B8 := Aside0.mk hbox; have G8 := Aside0.mk (show w.heap.size ≤ b8 by have := (HS.out.keep).1; omega); clear hb8 hbox hb; have q80 := (blk_cell B8.out 0).trans rfl; have z80 := blk_frozen B8.out 0; have q81 := (blk_cell B8.out 1).trans rfl; have z81 := blk_frozen B8.out 1; have q82 := (blk_cell B8.out 2).trans rfl; have z82 := blk_frozen B8.out 2)
        | (go_at_call 73; (with_reducible refine ((small_s w0 _ rb B (.ok rest) 0 3 hby H1.out.st).mono (fun e w' hr => HN1.out e w' _ hr)).mono ?_); rintro e w1 ⟨v, rfl, ⟨rfl, x0, x1⟩, hs, hk⟩; replace B8 := Aside0.mk (H1.out.blk B8.out G8.out hk); have H2 := Aside0.mk (H1.out.call hs hk); have p2 := hs.err_ok; clear x0 x1; clear hs hk q80 z80 q81 z81 q82 z82; have q80 := (blk_cell B8.out 0).trans rfl; have z80 := blk_frozen B8.out 0; have q81 := (blk_cell B8.out 1).trans rfl; have z81 := blk_frozen B8.out 1; have q82 := (blk_cell B8.out 2).trans rfl; have z82 := blk_frozen B8.out 2)
        | (go_at_call 75; (with_reducible refine (stop_s 63 (by decide) H2.out.st).mono ?_); rintro e w2 ⟨rfl, hs, hk⟩; replace B8 := Aside0.mk (H2.out.blk B8.out G8.out hk); have H3 := Aside0.mk (H2.out.call hs hk); clear hs hk q80 z80 q81 z81 q82 z82 p2; have q80 := (blk_cell B8.out 0).trans rfl; have z80 := blk_frozen B8.out 0; have q81 := (blk_cell B8.out 1).trans rfl; have z81 := blk_frozen B8.out 1; have q82 := (blk_cell B8.out 2).trans rfl; have z82 := blk_frozen B8.out 2))
      refine bodyPost_ret (results_cell_row rfl _ _ b8 23 #[(.int .i64 0), (.int .i64 0), (.string (⟨#[]⟩ : ByteArray))] (0, 0) _ rfl (blk3 (B8.out)) Tryd.underlying23 rfl (by kernel_rfl)) rfl ?_
      exact RS.gives (val := ValT) (x := (⟨0, 0, (⟨#[]⟩ : ByteArray)⟩ : Tm)) (H3.out.set3 G8.out) rfl rfl
    by_cases h1 : k = 1
    · subst h1
      clear k0 k3
      have HE := Aside0.mk (show Left.read (Except.ok rest) (termR 14 0) = Left.read (Except.ok r1) ((numR 8).then fun n => Rd.give (⟨1, i64 n, ⟨#[]⟩⟩ : Tm)) by change termR 14 0 rest = _; rw [termR_go hn (by decide), if_pos rfl]; rfl)
      rw [HE.out]
      clear hn
      go_enter Tryd.func72, Tryd.ntmps72
      go_wp2_with (first
        | ((with_reducible refine gate_dst (N := 8) rfl ?_); refine box_event ?hg (N := 8) ?hd (cs := #[.int .i64 0, .int .i64 0, .string (⟨#[]⟩ : ByteArray)]) (t := 23) ?hr ?_; (case hd => rfl); (case hg => rfl); (case hr => first | (go_simp; done) | (go_simp; rfl)); intro b8 hb8 wb8 hbox hb; have H1 := Aside0.mk (HS.out.up hb); have B8 := Aside0.mk hbox; have G8 := Aside0.mk (show w.heap.size ≤ b8 by have := (HS.out.keep).1; omega); clear hb8 hbox hb; have q80 := (blk_cell B8.out 0).trans rfl; have z80 := blk_frozen B8.out 0; have q81 := (blk_cell B8.out 1).trans rfl; have z81 := blk_frozen B8.out 1; have q82 := (blk_cell B8.out 2).trans rfl; have z82 := blk_frozen B8.out 2)
        | (go_at_call 73; (with_reducible refine ((small_s w0 _ rb B (.ok rest) 0 3 hby H1.out.st).mono (fun e w' hr => HN1.out e w' _ hr)).mono ?_); rintro e w1 ⟨v, rfl, ⟨rfl, x0, x1⟩, hs, hk⟩; replace B8 := Aside0.mk (H1.out.blk B8.out G8.out hk); have H2 := Aside0.mk (H1.out.call hs hk); have p2 := hs.err_ok; clear x0 x1; clear hs hk q80 z80 q81 z81 q82 z82; have q80 := (blk_cell B8.out 0).trans rfl; have z80 := blk_frozen B8.out 0; have q81 := (blk_cell B8.out 1).trans rfl; have z81 := blk_frozen B8.out 1; have q82 := (blk_cell B8.out 2).trans rfl; have z82 := blk_frozen B8.out 2)
        | (go_at_call 98; (with_reducible refine (number_s8 w0 _ rb B _ hby H2.out.st).mono ?_); rintro e w2 hr; obtain ⟨n, v, s2, rfl, ⟨rfl, x0, x1⟩, hs, ha⟩ := hr.ex; replace B8 := Aside0.mk (H2.out.blk B8.out G8.out hr.keep); have H3 := Aside0.mk (H2.out.call hs hr.keep); have HA := Aside0.mk ha; clear hr ha hs q80 z80 q81 z81 q82 z82 p2; have q80 := (blk_cell B8.out 0).trans rfl; have z80 := blk_frozen B8.out 0; have q81 := (blk_cell B8.out 1).trans rfl; have z81 := blk_frozen B8.out 1; have q82 := (blk_cell B8.out 2).trans rfl; have z82 := blk_frozen B8.out 2))
      refine bodyPost_ret (results_cell_row rfl _ _ b8 23 #[(.int .i64 1), (.int .i64 (wrap64 n)), (.string (⟨#[]⟩ : ByteArray))] (0, 0) _ rfl (blk3 (B8.out)) Tryd.underlying23 rfl (by kernel_rfl)) rfl ?_
      exact RS.gives (val := ValT) (x := (⟨1, (wrap64 n), (⟨#[]⟩ : ByteArray)⟩ : Tm)) (H3.out.set3 G8.out) rfl (after_then HA.out after_give)
    by_cases h2 : k = 2
    · subst h2
      clear k0 k3
      have HE := Aside0.mk (show Left.read (Except.ok rest) (termR 14 0) = Left.read (Except.ok r1) (textR 0) by change termR 14 0 rest = _; rw [termR_go hn (by decide), if_neg (by decide), if_neg (by decide), if_pos rfl]; rfl)
      rw [HE.out]
      clear hn
      go_enter Tryd.func72, Tryd.ntmps72
      go_wp2_with (first
        | ((with_reducible refine gate_dst (N := 8) rfl ?_); refine box_event ?hg (N := 8) ?hd (cs := #[.int .i64 0, .int .i64 0, .string (⟨#[]⟩ : ByteArray)]) (t := 23) ?hr ?_; (case hd => rfl); (case hg => rfl); (case hr => first | (go_simp; done) | (go_simp; rfl)); intro b8 hb8 wb8 hbox hb; have H1 := Aside0.mk (HS.out.up hb); have B8 := Aside0.mk hbox; have G8 := Aside0.mk (show w.heap.size ≤ b8 by have := (HS.out.keep).1; omega); clear hb8 hbox hb; have q80 := (blk_cell B8.out 0).trans rfl; have z80 := blk_frozen B8.out 0; have q81 := (blk_cell B8.out 1).trans rfl; have z81 := blk_frozen B8.out 1; have q82 := (blk_cell B8.out 2).trans rfl; have z82 := blk_frozen B8.out 2)
        | (go_at_call 73; (with_reducible refine ((small_s w0 _ rb B (.ok rest) 0 3 hby H1.out.st).mono (fun e w' hr => HN1.out e w' _ hr)).mono ?_); rintro e w1 ⟨v, rfl, ⟨rfl, x0, x1⟩, hs, hk⟩; replace B8 := Aside0.mk (H1.out.blk B8.out G8.out hk); have H2 := Aside0.mk (H1.out.call hs hk); have p2 := hs.err_ok; clear x0 x1; clear hs hk q80 z80 q81 z81 q82 z82; have q80 := (blk_cell B8.out 0).trans rfl; have z80 := blk_frozen B8.out 0; have q81 := (blk_cell B8.out 1).trans rfl; have z81 := blk_frozen B8.out 1; have q82 := (blk_cell B8.out 2).trans rfl; have z82 := blk_frozen B8.out 2)
        | (go_at_call 99; (with_reducible refine (text_s w0 _ rb B _ 0 hby H2.out.st).mono ?_); rintro e w2 hr; obtain ⟨t, v, s2, rfl, rfl, hs, ha⟩ := hr.ex; replace B8 := Aside0.mk (H2.out.blk B8.out G8.out hr.keep); have H3 := Aside0.mk (H2.out.call hs hr.keep); have HA := Aside0.mk ha; clear hr ha hs q80 z80 q81 z81 q82 z82 p2; have q80 := (blk_cell B8.out 0).trans rfl; have z80 := blk_frozen B8.out 0; have q81 := (blk_cell B8.out 1).trans rfl; have z81 := blk_frozen B8.out 1; have q82 := (blk_cell B8.out 2).trans rfl; have z82 := blk_frozen B8.out 2))
      refine bodyPost_ret (results_cell_row rfl _ _ b8 23 #[(.int .i64 t.f0), (.int .i64 t.f1), (.string t.f2)] (0, 0) _ rfl (blk3 (B8.out)) Tryd.underlying23 rfl (by kernel_rfl)) rfl ?_
      exact RS.gives (val := ValT) (x := (⟨t.f0, t.f1, t.f2⟩ : Tm)) (H3.out.set3 G8.out) rfl HA.out
    obtain rfl : k = 3 := by omega
    clear k0 k3
    have HE := Aside0.mk (show Left.read (Except.ok rest) (termR 14 0) = Left.read (Except.ok r1) (natR.then fun n => Rd.give (⟨3, n, ⟨#[]⟩⟩ : Tm)) by change termR 14 0 rest = _; rw [termR_go hn (by decide), if_neg (by decide), if_pos rfl]; rfl)
    rw [HE.out]
    clear hn
    go_enter Tryd.func72, Tryd.ntmps72
    go_wp2_with (first
      | ((with_reducible refine gate_dst (N := 8) rfl ?_); refine box_event ?hg (N := 8) ?hd (cs := #[.int .i64 0, .int .i64 0, .string (⟨#[]⟩ : ByteArray)]) (t := 23) ?hr ?_; (case hd => rfl); (case hg => rfl); (case hr => first | (go_simp; done) | (go_simp; rfl)); intro b8 hb8 wb8 hbox hb; have H1 := Aside0.mk (HS.out.up hb); have B8 := Aside0.mk hbox; have G8 := Aside0.mk (show w.heap.size ≤ b8 by have := (HS.out.keep).1; omega); clear hb8 hbox hb; have q80 := (blk_cell B8.out 0).trans rfl; have z80 := blk_frozen B8.out 0; have q81 := (blk_cell B8.out 1).trans rfl; have z81 := blk_frozen B8.out 1; have q82 := (blk_cell B8.out 2).trans rfl; have z82 := blk_frozen B8.out 2)
      | (go_at_call 73; (with_reducible refine ((small_s w0 _ rb B (.ok rest) 0 3 hby H1.out.st).mono (fun e w' hr => HN1.out e w' _ hr)).mono ?_); rintro e w1 ⟨v, rfl, ⟨rfl, x0, x1⟩, hs, hk⟩; replace B8 := Aside0.mk (H1.out.blk B8.out G8.out hk); have H2 := Aside0.mk (H1.out.call hs hk); have p2 := hs.err_ok; clear x0 x1; clear hs hk q80 z80 q81 z81 q82 z82; have q80 := (blk_cell B8.out 0).trans rfl; have z80 := blk_frozen B8.out 0; have q81 := (blk_cell B8.out 1).trans rfl; have z81 := blk_frozen B8.out 1; have q82 := (blk_cell B8.out 2).trans rfl; have z82 := blk_frozen B8.out 2)
      | (go_at_call 100; (with_reducible refine (natural_s w0 _ rb B _ hby H2.out.st).mono ?_); rintro e w2 hr; obtain ⟨n, v, s2, rfl, rfl, hs, ha⟩ := hr.ex; replace B8 := Aside0.mk (H2.out.blk B8.out G8.out hr.keep); have H3 := Aside0.mk (H2.out.call hs hr.keep); have HA := Aside0.mk ha; clear hr ha hs q80 z80 q81 z81 q82 z82 p2; have q80 := (blk_cell B8.out 0).trans rfl; have z80 := blk_frozen B8.out 0; have q81 := (blk_cell B8.out 1).trans rfl; have z81 := blk_frozen B8.out 1; have q82 := (blk_cell B8.out 2).trans rfl; have z82 := blk_frozen B8.out 2))
    refine bodyPost_ret (results_cell_row rfl _ _ b8 23 #[(.int .i64 3), (.int .i64 n), (.string (⟨#[]⟩ : ByteArray))] (0, 0) _ rfl (blk3 (B8.out)) Tryd.underlying23 rfl (by kernel_rfl)) rfl ?_
    exact RS.gives (val := ValT) (x := (⟨3, n, (⟨#[]⟩ : ByteArray)⟩ : Tm)) (H3.out.set3 G8.out) rfl (after_then HA.out after_give)
end Go.Proofs.YtdplpcedfkfajaaDoor.T
