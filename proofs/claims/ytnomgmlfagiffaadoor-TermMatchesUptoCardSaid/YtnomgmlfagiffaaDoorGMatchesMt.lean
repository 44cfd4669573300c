/- The walk of TermMatches. -/
import Derived.Test.YtnomgmlfagiffaaDoorPureRMMt
import Derived.Test.YtnomgmlfagiffaaDoorPureFirstMt
import Derived.Test.YtnomgmlfagiffaaDoorPureRLMt
import Derived.Test.YtnomgmlfagiffaaDoorGSpareMt
set_option linter.unusedVariables false
set_option linter.unusedSimpArgs false
namespace Go.Proofs.YtnomgmlfagiffaaDoor.T
open Go.RowKit Go.Proofs.YtnomgmlfagiffaaDoorW.PrintWords Go.Proofs.YtnomgmlfagiffaaDoorW.PrintLast
/-- What the walk carries: nothing old has turned, the lent lists are as they were made, its own four variables. -/
structure MInv (w W : World) (s : List Bd) (l m : List Tm) (g0 d0 g1 d1 g2 d2 : Nat) : Prop where
  below : Below w.heap.size w W
  own : Kd.R k44 44 W w.heap.size (fun _ => True) (.slice (some ⟨g0, 0, none⟩) (s.length + 1) d0) (s ++ [lateB])
  x : Kd.R k23 23 W w.heap.size (fun _ => True) (.slice (some ⟨g1, 0, none⟩) (l.length + 1) d1) (l ++ [markT])
  y : Kd.R k23 23 W w.heap.size (fun _ => True) (.slice (some ⟨g2, 0, none⟩) (m.length + 1) d2) (m ++ [markT])
theorem MInv.up {w W W' : World} {s : List Bd} {l m : List Tm} {g0 d0 g1 d1 g2 d2 : Nat} (h : MInv w W s l m g0 d0 g1 d1 g2 d2) (hb : Below W.heap.size W W') : MInv w W' s l m g0 d0 g1 d1 g2 d2 :=
  ⟨below_step h.below hb, Kd.R_below h.own hb, Kd.R_below h.x hb, Kd.R_below h.y hb⟩
set_option maxHeartbeats 4000000 in
set_option maxRecDepth 100000 in
theorem matches_calls (t : Tm) (nm : ByteArray) (l : List Tm) (A0 : Option Addr) (c0 : Nat) (u : Tm) (nn : ByteArray) (m : List Tm) (A1 : Option Addr) (c1 : Nat) (s : List Bd) (A2 : Option Addr) (c2 : Nat) (w : World)
    (hr0 : Kd.C k23 w A0 l.length l) (hc0 : l.length ≤ c0) (hr1 : Kd.C k23 w A1 m.length m) (hc1 : m.length ≤ c1) (hr2 : Kd.C k44 w A2 s.length s) (hc2 : s.length ≤ c2)
    (ot : okT t = true) (ol : l.all okT = true) (ou : okT u = true) (om : m.all okT = true) (os : s.all okB = true) (hLm : Laid1 w) (hLl : Laid0 w) (hn : nm.size ≤ 9223372036854775807) (hm : nn.size ≤ 9223372036854775807) (hsum : s.length + l.length + 1 < smallN) (lm : m.length < smallN) :
    Calls Tryd.prog 3 #[.agg #[.int .i64 t.f0, .int .i64 t.f1, .string t.f2, .string nm, .slice A0 l.length c0], .agg #[.int .i64 u.f0, .int .i64 u.f1, .string u.f2, .string nn, .slice A1 m.length c1], .slice A2 s.length c2] w fun e w' => e = .returned (.bool true) ∧ Below w.heap.size w w' := by
  have hu26 := Tryd.underlying26
  have hu23 := Tryd.underlying23
  have H0 := Aside0.mk (show Kd.C k23 w A0 l.length l ∧ l.length ≤ c0 from ⟨hr0, hc0⟩)
  have H1 := Aside0.mk (show Kd.C k23 w A1 m.length m ∧ m.length ≤ c1 from ⟨hr1, hc1⟩)
  have H2 := Aside0.mk (show Kd.C k44 w A2 s.length s ∧ s.length ≤ c2 from ⟨hr2, hc2⟩)
  have HM := Aside0.mk hLm
  have HL := Aside0.mk hLl
  have HS := Aside0.mk (show s.length < smallN ∧ l.length < smallN ∧ m.length < smallN from ⟨by omega, by omega, lm⟩)
  obtain ⟨r, hr⟩ : ∃ r, matchL nm l nn m s t u = r := ⟨_, rfl⟩
  obtain ⟨r1, r2⟩ := r
  have hlen : r1.length < 3298534883328 := matchL_len hr (by simp [smallN] at hsum; omega)
  have HLN := Aside0.mk hlen
  have hf : term_Match.f t.f0 t.f1 t.f2 nm l u.f0 u.f1 u.f2 nn m s = some (r1, r2) := by
    unfold term_Match.f
    rw [if_pos (by simp [ot, ou, ol, om, os, HS.out.1, HS.out.2.1, HS.out.2.2]), hr]
  obtain ⟨K, hK⟩ := rmatch_f t u nm nn l m s ot ou hn hm ol om os hsum lm
  have hg := hK K (Nat.le_refl _)
  rw [hr] at hg
  have HF := Aside0.mk hf
  have HG := Aside0.mk hg
  clear hr0 hc0 hr1 hc1 hr2 hc2 ot ol ou om os hLm hLl hn hm hsum lm hf hK hg hr hlen
  go_enter Tryd.func3, Tryd.ntmps3
  go_wp2_with (first
    | ((with_reducible refine gate_dst (N := 3) rfl ?_); refine box_event ?hg (N := 3) ?hd (cs := #[.int .i64 t.f0, .int .i64 t.f1, .string t.f2, .string nm, .slice A0 l.length c0]) (t := 26) ?hr ?_; (case hd => rfl); (case hg => rfl); (case hr => first | (go_simp; done) | (go_simp; rfl)); intro b3 hb3 w00 hbox hb; have K30 := Aside0.mk hbox; have HB00 := Aside0.mk hb; clear hb3 hbox hb)
    | ((with_reducible refine gate_dst (N := 4) rfl ?_); refine box_event ?hg (N := 4) ?hd (cs := #[.int .i64 u.f0, .int .i64 u.f1, .string u.f2, .string nn, .slice A1 m.length c1]) (t := 26) ?hr ?_; (case hd => rfl); (case hg => rfl); (case hr => first | (go_simp; done) | (go_simp; rfl)); intro b4 hb4 w0 hbox hb; have K3 := Aside0.mk (blk_below K30.out hb); have K4 := Aside0.mk hbox; have HB0 := Aside0.mk (below_step HB00.out hb); clear hb4 hbox hb K30 HB00)
    | (go_at_call 12; refine (lend_calls A2 c2 s _ (Kd.C_below H2.out.1 HB0.out) H2.out.2 (Laid0.up HL.out HB0.out) HS.out.1).mono ?_; rintro e w1 ⟨g0, d0, rfl, hR, hb⟩; have RO := Aside0.mk (Kd.R_lower hR HB0.out.size); have HB1 := Aside0.mk (below_step HB0.out hb); have K31 := Aside0.mk (blk_below K3.out hb); have K41 := Aside0.mk (blk_below K4.out hb); clear hR hb K3 K4 HB0; have p0 := (blk_cell K31.out 0).trans rfl; have p1 := (blk_cell K31.out 1).trans rfl; have p2 := (blk_cell K31.out 2).trans rfl; have p3 := (blk_cell K31.out 3).trans rfl; have p4 := (blk_cell K31.out 4).trans rfl)
    | (go_at_call 13; refine (lent_calls t nm A0 c0 l _ (Kd.C_below H0.out.1 HB1.out) H0.out.2 (Laid1.up HM.out HB1.out) HS.out.2.1).mono ?_; rintro e w2 ⟨g1, d1, rfl, hR, hb⟩; have RX := Aside0.mk (Kd.R_lower hR HB1.out.size); have RO2 := Aside0.mk (Kd.R_below RO.out hb); have HB2 := Aside0.mk (below_step HB1.out hb); have K32 := Aside0.mk (blk_below K31.out hb); have K42 := Aside0.mk (blk_below K41.out hb); clear hR hb K31 K41 HB1 RO p0 p1 p2 p3 p4; have q0 := (blk_cell K42.out 0).trans rfl; have q1 := (blk_cell K42.out 1).trans rfl; have q2 := (blk_cell K42.out 2).trans rfl; have q3 := (blk_cell K42.out 3).trans rfl; have q4 := (blk_cell K42.out 4).trans rfl; have qa0 := fun o => (blk_cell (blk_alloc K42.out o) 0).trans rfl; have qa1 := fun o => (blk_cell (blk_alloc K42.out o) 1).trans rfl; have qa2 := fun o => (blk_cell (blk_alloc K42.out o) 2).trans rfl; have qa3 := fun o => (blk_cell (blk_alloc K42.out o) 3).trans rfl; have qa4 := fun o => (blk_cell (blk_alloc K42.out o) 4).trans rfl)
    | (go_at_call 13; refine (lent_calls u nn A1 c1 m _ (Kd.C_below H1.out.1 (below_alloc HB2.out _)) H1.out.2 (Laid1.up HM.out (below_alloc HB2.out _)) HS.out.2.2).mono ?_; rintro e w3 ⟨g2, d2, rfl, hR, hb⟩; have II := Aside0.mk (MInv.mk (below_step (below_alloc HB2.out _) hb) (Kd.R_below RO2.out (below_step (below_alloc (Below.refl _ w2) _) hb)) (Kd.R_below RX.out (below_step (below_alloc (Below.refl _ w2) _) hb)) (Kd.R_lower hR (below_alloc HB2.out _).size)); have K33 := Aside0.mk (blk_below (blk_alloc K32.out _) hb); have K43 := Aside0.mk (blk_below (blk_alloc K42.out _) hb); have K83 := Aside0.mk (blk_below (blk_new w2 _) hb); clear hR hb K32 K42 RO2 RX HB2 q0 q1 q2 q3 q4 qa0 qa1 qa2 qa3 qa4; have x0 := (blk_cell K83.out 0).trans rfl; have x1 := (blk_cell K83.out 1).trans rfl; have x2 := (blk_cell K83.out 2).trans rfl; have x3 := (blk_cell K83.out 3).trans rfl; have x4 := (blk_cell K83.out 4).trans rfl; have xa0 := fun o => (blk_cell (blk_alloc K83.out o) 0).trans rfl; have xa1 := fun o => (blk_cell (blk_alloc K83.out o) 1).trans rfl; have xa2 := fun o => (blk_cell (blk_alloc K83.out o) 2).trans rfl; have xa3 := fun o => (blk_cell (blk_alloc K83.out o) 3).trans rfl; have xa4 := fun o => (blk_cell (blk_alloc K83.out o) 4).trans rfl)
    | (go_at_call 14; refine (term_Match.calls t.f0 t.f1 t.f2 nm (some ⟨g1, 0, none⟩) d1 l u.f0 u.f1 u.f2 nn (some ⟨g2, 0, none⟩) d2 m (some ⟨g0, 0, none⟩) d0 s r1 r2 _ (C_front (R_C' (II.out.up (below_alloc (Below.refl _ _) _)).x)) (by have := R_room II.out.x (by simp); simp at this; omega) (C_front (R_C' (II.out.up (below_alloc (Below.refl _ _) _)).y)) (by have := R_room II.out.y (by simp); simp at this; omega) (C_front (R_C' (II.out.up (below_alloc (Below.refl _ _) _)).own)) (by have := R_room II.out.own (by simp); simp at this; omega) HF.out).mono ?_; rintro e w4 ⟨va, rfl, hRa, hb⟩; obtain ⟨Aa, ca, rfl⟩ := Kd.R_slice hRa; have RA := Aside0.mk hRa; have I4 := Aside0.mk (II.out.up (below_step (below_alloc (Below.refl _ w3) _) hb)); have K34 := Aside0.mk (blk_below (blk_alloc K33.out _) hb); have K44 := Aside0.mk (blk_below (blk_alloc K43.out _) hb); have K84 := Aside0.mk (blk_below (blk_alloc K83.out _) hb); have K94 := Aside0.mk (blk_below (blk_new w3 _) hb); clear hRa hb K33 K43 K83 II x0 x1 x2 x3 x4 xa0 xa1 xa2 xa3 xa4; have p0 := (blk_cell K34.out 0).trans rfl; have p1 := (blk_cell K34.out 1).trans rfl; have p2 := (blk_cell K34.out 2).trans rfl; have p3 := (blk_cell K34.out 3).trans rfl; have p4 := (blk_cell K34.out 4).trans rfl; have q0 := (blk_cell K44.out 0).trans rfl; have q1 := (blk_cell K44.out 1).trans rfl; have q2 := (blk_cell K44.out 2).trans rfl; have q3 := (blk_cell K44.out 3).trans rfl; have q4 := (blk_cell K44.out 4).trans rfl)
    | (go_at_call 15; refine (hearsayref02_Match.calls K t.f0 t.f1 t.f2 nm A0 c0 l u.f0 u.f1 u.f2 nn A1 c1 m A2 c2 s r1 r2 _ (Kd.C_below H0.out.1 I4.out.below) H0.out.2 (Kd.C_below H1.out.1 I4.out.below) H1.out.2 (Kd.C_below H2.out.1 I4.out.below) H2.out.2 HG.out).mono ?_; rintro e w5 ⟨vb, rfl, hRb, hb⟩; obtain ⟨Ab, cb, rfl⟩ := Kd.R_slice hRb; have RB := Aside0.mk hRb; have RA5 := Aside0.mk (Kd.R_below RA.out hb); have I5 := Aside0.mk (I4.out.up hb); have K35 := Aside0.mk (blk_below K34.out hb); have K45 := Aside0.mk (blk_below K44.out hb); have K85 := Aside0.mk (blk_below K84.out hb); have K95 := Aside0.mk (blk_below K94.out hb); clear hRb hb K34 K44 K84 K94 I4 RA p0 p1 p2 p3 p4 q0 q1 q2 q3 q4)
    | (go_at_call 16; refine (hearsaylaw02_bindings.calls (r1.length + 1) Aa ca r1 Ab cb r1 true _ (R_C' RA5.out) (R_cap RA5.out) (R_C' RB.out) (R_cap RB.out) (bindings_self2 r1 HLN.out _ (Nat.le_refl _))).mono ?_; rintro e w6 ⟨rfl, hd⟩; have hb := hd.below; have I6 := Aside0.mk (I5.out.up hb); have K36 := Aside0.mk (blk_below K35.out hb); have K46 := Aside0.mk (blk_below K45.out hb); have K86 := Aside0.mk (blk_below K85.out hb); have K96 := Aside0.mk (blk_below K95.out hb); clear hb hd K35 K45 K85 K95 I5 RA5 RB)
    | (go_at_call 17; refine (still_calls g0 d0 A2 c2 s _ w.heap.size I6.out.own (Kd.C_below H2.out.1 I6.out.below) H2.out.2 (Laid0.up HL.out I6.out.below) HS.out.1).mono ?_; rintro e w7 ⟨rfl, hb⟩; have I7 := Aside0.mk (I6.out.up hb); have K37 := Aside0.mk (blk_below K36.out hb); have K47 := Aside0.mk (blk_below K46.out hb); have K87 := Aside0.mk (blk_below K86.out hb); have K97 := Aside0.mk (blk_below K96.out hb); clear hb K36 K46 K86 K96 I6; have x0 := (blk_cell K87.out 0).trans rfl; have x1 := (blk_cell K87.out 1).trans rfl; have x2 := (blk_cell K87.out 2).trans rfl; have x3 := (blk_cell K87.out 3).trans rfl; have x4 := (blk_cell K87.out 4).trans rfl; have p0 := (blk_cell K37.out 0).trans rfl; have p1 := (blk_cell K37.out 1).trans rfl; have p2 := (blk_cell K37.out 2).trans rfl; have p3 := (blk_cell K37.out 3).trans rfl; have p4 := (blk_cell K37.out 4).trans rfl)
    | (go_at_call 18; refine (kept_calls t nm g1 d1 A0 c0 l _ w.heap.size I7.out.x (Kd.C_below H0.out.1 I7.out.below) H0.out.2 (Laid1.up HM.out I7.out.below) HS.out.2.1).mono ?_; rintro e w8 ⟨rfl, hb⟩; have I8 := Aside0.mk (I7.out.up hb); have K48 := Aside0.mk (blk_below K47.out hb); have K98 := Aside0.mk (blk_below K97.out hb); clear hb K37 K47 K87 K97 I7 x0 x1 x2 x3 x4 p0 p1 p2 p3 p4; have y0 := (blk_cell K98.out 0).trans rfl; have y1 := (blk_cell K98.out 1).trans rfl; have y2 := (blk_cell K98.out 2).trans rfl; have y3 := (blk_cell K98.out 3).trans rfl; have y4 := (blk_cell K98.out 4).trans rfl; have q0 := (blk_cell K48.out 0).trans rfl; have q1 := (blk_cell K48.out 1).trans rfl; have q2 := (blk_cell K48.out 2).trans rfl; have q3 := (blk_cell K48.out 3).trans rfl; have q4 := (blk_cell K48.out 4).trans rfl)
    | (go_at_call 18; refine (kept_calls u nn g2 d2 A1 c1 m _ w.heap.size I8.out.y (Kd.C_below H1.out.1 I8.out.below) H1.out.2 (Laid1.up HM.out I8.out.below) HS.out.2.2).mono ?_; rintro e w9 ⟨rfl, hb⟩; have I9 := Aside0.mk (I8.out.up hb); clear hb)
    | (go_at_call 19; refine (hearsaylaw02_first.calls true _ first_f).mono ?_; rintro e w11 ⟨rfl, hb⟩; have I11 := Aside0.mk (I9.out.up hb); clear hb)
    | go_in)
  go_ret
  exact ⟨rfl, I11.out.below⟩
end Go.Proofs.YtnomgmlfagiffaaDoor.T
