/- PureFirst; GVars; GAtoms: texts of this claim, laid together. -/
import Derived.Test.YtnomgmlfagiffaaDoorM10At
import Derived.Test.YtnomgmlfagiffaaDoorM2At
import Derived.Lib.Bytealg
import Derived.Lib.Small
import Derived.Test.YtnomgmlfagiffaaDoorM0At
import Derived.Test.YtnomgmlfagiffaaDoorM3At
import Derived.Below
import Derived.WalkKit
import Derived.WalkMore
import Derived.Lib.Walk
import Derived.Deep.LoopGhost
import Derived.Test.YtnomgmlfagiffaaDoorM9At
/- The laws' first call answers as the document fixes it. -/
namespace Go.Proofs.YtnomgmlfagiffaaDoor.T
open Go.RowKit Go.Lib Go.Proofs.YtnomgmlfagiffaaDoorW.PrintWords
theorem first_f : hearsaylaw02_first.f = some true := by
  have e0 : (⟨#[]⟩ : ByteArray).toList = [] := by rw [toList_data]
  have e1 : matchL ⟨#[112]⟩ [(⟨3, 0, ⟨#[]⟩⟩ : Tm)] ⟨#[112]⟩ [⟨1, 5, ⟨#[]⟩⟩] [] ⟨0, 0, ⟨#[]⟩⟩ ⟨0, 0, ⟨#[]⟩⟩ = ([⟨0, ⟨1, 5, ⟨#[]⟩⟩⟩], true) := by
    simp [matchL, stepM, isVar, eqT, getM, putM, startM, e0]
  unfold hearsaylaw02_first.f term_Match.f
  rw [e1, if_pos (by decide)]
  simp [rd_T44, e0]
end Go.Proofs.YtnomgmlfagiffaaDoor.T
/- The walk of term.Vars: a labelled loop over the places, with a loop over the numbers found so far. -/
set_option linter.unusedVariables false
set_option linter.unusedSimpArgs false
namespace Go.Proofs.YtnomgmlfagiffaaDoor.T
open Go.RowKit Go.Proofs.YtnomgmlfagiffaaDoorW.PrintWords Go.Proofs.YtnomgmlfagiffaaDoorW.PrintLast
theorem vars_step {p : List Tm} {i : Nat} (h : i < p.length) (out : List Int) : varsL (p.drop i) out = varsL (p.drop (i + 1)) (if isVar p[i] && !out.contains p[i].f1 then out ++ [p[i].f1] else out) := by
  rw [List.drop_eq_getElem_cons h]
  rfl
theorem contains_no {out : List Int} {v : Int} (h : ∀ k : Nat, (hk : k < out.length) → out[k] ≠ v) : out.contains v = false := by
  rw [Bool.eq_false_iff]
  intro hc
  rw [List.contains_iff_mem] at hc
  obtain ⟨k, hk, e⟩ := List.getElem_of_mem hc
  exact h k hk e
theorem contains_at {out : List Int} {v : Int} {k : Nat} (hk : k < out.length) (h : out[k] = v) : out.contains v = true := by
  rw [List.contains_iff_mem, ← h]
  exact List.getElem_mem hk
set_option maxHeartbeats 8000000 in
set_option maxRecDepth 100000 in
theorem term_Vars.calls (a0_0 : Int) (a0_1 : Int) (a0_2 : ByteArray) (a0_3 : ByteArray) (A0_4 : Option Addr) (c0_4 : Nat) (l0_4 : List Tm) (r : List Int) (w : World) (hr0_4 : Kd.C k23 w A0_4 l0_4.length l0_4) (hc0_4 : l0_4.length ≤ c0_4) (h : term_Vars.f a0_0 a0_1 a0_2 a0_3 l0_4 = some r) :
    Calls Tryd.prog 28 #[.agg #[.int .i64 a0_0, .int .i64 a0_1, .string a0_2, .string a0_3, .slice A0_4 l0_4.length c0_4]] w fun e w' => ∃ v0_ : Value, e = .returned (v0_) ∧ Kd.R (Kd.int .i64) 3 w' w.heap.size (fun _ => True) v0_ r ∧ Below w.heap.size w w' := by
  have hu26 := Tryd.underlying26
  have hu23 := Tryd.underlying23
  unfold term_Vars.f at h
  have hsm : l0_4.length < smallN := Decidable.byContradiction (fun hn => by rw [if_neg hn] at h; cases h)
  rw [if_pos hsm] at h
  obtain ⟨p, hp⟩ : ∃ p : List Tm, p = (⟨a0_0, a0_1, a0_2⟩ :: l0_4) := ⟨_, rfl⟩
  have hpl : term_places.f a0_0 a0_1 a0_2 a0_3 l0_4 = some p := by
    unfold term_places.f
    simp only [Option.bind_some]
    rw [if_pos (by simp; simp only [smallN] at hsm; omega), hp]
    rfl
  have hlen : p.length < smallN + 1 := by rw [hp]; simp; omega
  rw [← hp] at h
  have HR := Aside0.mk hr0_4
  have HC := Aside0.mk hc0_4
  have HP := Aside0.mk hpl
  have HL := Aside0.mk hlen
  have HRES := Aside0.mk (Option.some.inj h)
  clear hr0_4 hc0_4 hpl hlen h hsm hp
  have HB := Aside0.mk (Below.refl w.heap.size w)
  go_enter Tryd.func28, Tryd.ntmps28
  go_wp2_with (first
    | ((with_reducible refine gate_dst (N := 1) rfl ?_); refine box_event ?hg (N := 1) ?hd (cs := #[.int .i64 a0_0, .int .i64 a0_1, .string a0_2, .string a0_3, .slice A0_4 l0_4.length c0_4]) (t := 26) ?hr ?_; (case hd => rfl); (case hg => rfl); (case hr => first | (go_simp; done) | (go_simp; rfl)); intro b1 hb1 w1 hbox hb; have K1 := Aside0.mk hbox; have HB1 := Aside0.mk hb; clear hb1 hbox hb; have p0 := (blk_cell K1.out 0).trans rfl; have p1 := (blk_cell K1.out 1).trans rfl; have p2 := (blk_cell K1.out 2).trans rfl; have p3 := (blk_cell K1.out 3).trans rfl; have p4 := (blk_cell K1.out 4).trans rfl)
    | go_in)
  go_step3
  go_wp2
  go_step3
  go_wp2_with (first
    | (go_at_call 50; refine (term_places.calls a0_0 a0_1 a0_2 a0_3 A0_4 c0_4 l0_4 p _ (Kd.C_below HR.out HB1.out) HC.out HP.out).mono ?_; rintro e w2 ⟨v0, rfl, hR, hb⟩; obtain ⟨Ap, cp, rfl⟩ := Kd.R_slice hR; have RP := Aside0.mk (Kd.R_lower hR HB1.out.size); have HB2 := Aside0.mk (below_step HB1.out hb); clear hR hb p0 p1 p2 p3 p4)
    | go_in)
  go_loopg [3, 11] p.length (fun gg v3 s11 wr => ∃ (out : List Int) (i : Int), s11 = .int .i64 i ∧ Aside0 (0 ≤ i ∧ i ≤ (p.length : Int) ∧ (p.length : Int) - i ≤ (gg : Int)) ∧ Aside0 (varsL (p.drop i.toNat) out = r ∧ (out.length : Int) ≤ i) ∧ Aside0 (Kd.R k23 23 wr w.heap.size (fun _ => True) (.slice Ap p.length cp) p) ∧ Aside0 (Kd.R (Kd.int .i64) 3 wr w.heap.size (fun _ => True) v3 out) ∧ Aside0 (Below w.heap.size w wr))
  case atStart => exact ⟨[], 0, rfl, ⟨by omega, by omega, by omega⟩, ⟨HRES.out, by simp⟩, RP, ⟨Kd.R_nil _ _ _ _ _⟩, HB2⟩
  case round =>
    clear RP HB2 K1 HB1 HRES
    obtain ⟨out, i, rfl, HK, HV, RP, RO, HB1⟩ := hrel
    obtain ⟨Ao, co, rfl⟩ := Kd.R_slice RO.out
    by_cases hlt : i < (p.length : Int)
    · have hltb : decide (i < (p.length : Int)) = true := decide_eq_true hlt
      have hpos : 0 ≤ i := HK.out.1
      have HLT := Aside0.mk (show i.toNat < p.length by omega)
      have HPOS := Aside0.mk hpos
      obtain ⟨ad, e0, h0, h1, h2⟩ := at_T23 (Kd.R_reads' RP.out).2.2 i hpos hlt
      cases e0
      have HY := Aside0.mk (show p[i.toNat]'HLT.out = rd_T23 p i from by simp [rd_T23, List.getD_eq_getElem?_getD, List.getElem?_eq_getElem HLT.out])
      have hst := vars_step HLT.out out
      rw [HY.out, HV.out.1] at hst
      have hwr : wrap64 (i + 1) = i + 1 := by have := HL.out; simp only [smallN] at this; simp only [wrap64]; omega
      have hlt' := eq_true hlt
      have hpos' := eq_true hpos
      obtain ⟨y, hy⟩ : ∃ y : Tm, y = rd_T23 p i := ⟨_, rfl⟩
      rw [← hy] at h0 h1 h2 hst
      have HST := Aside0.mk hst
      clear hlt hpos hst hy HY
      have hcall := var_f y
      cases hq : isVar y with
      | false =>
        rw [hq] at hcall
        have HQ := Aside0.mk hq
        have HCALL := Aside0.mk hcall
        clear hq hcall
        go_wp2_with (first
          | (go_at_call 27; refine (term_Variable.calls y.f0 y.f1 y.f2 false _ HCALL.out).mono ?_; rintro e w3 ⟨rfl, hb⟩; have HB3 := Aside0.mk (below_step (below_alloc HB1.out _) hb); have RP3 := Aside0.mk (Kd.R_below (Kd.R_alloc RP.out _) hb); have RO3 := Aside0.mk (Kd.R_below (Kd.R_alloc RO.out _) hb); clear hb)
          | go_in)
        go_roundg (p.length - (i.toNat + 1))
        case measure => have := HK.out; have := HLT.out; omega
        case rel =>
          refine ⟨out, i + 1, by first | rfl | (simp [hwr]; done) | go_num, ⟨by have := HPOS.out; omega, by have := HLT.out; omega, by have := HLT.out; have := HPOS.out; omega⟩, ⟨?_, by have := HV.out.2; omega⟩, RP3, RO3, HB3⟩
          have := HST.out
          rw [HQ.out] at this
          rw [show (i + 1).toNat = i.toNat + 1 by have := HPOS.out; omega]
          simpa using this.symm
      | true =>
        rw [hq] at hcall
        have HQ := Aside0.mk hq
        have HCALL := Aside0.mk hcall
        clear hq hcall
        go_wp2_with (first
          | (go_at_call 27; refine (term_Variable.calls y.f0 y.f1 y.f2 true _ HCALL.out).mono ?_; rintro e w3 ⟨rfl, hb⟩; have HB3 := Aside0.mk (below_step (below_alloc HB1.out _) hb); have RP3 := Aside0.mk (Kd.R_below (Kd.R_alloc RP.out _) hb); have RO3 := Aside0.mk (Kd.R_below (Kd.R_alloc RO.out _) hb); have K3 := Aside0.mk (blk_below (blk_new wr _) hb); clear hb)
          | go_in)
        have q1 := (blk_cell K3.out 1).trans rfl
        have HS := Aside0.mk (show out.length < smallN + 1 by have := HV.out.2; have := HL.out; have := HLT.out; omega)
        go_loopg [20] out.length (fun gg s20 wv => ∃ (j : Int), s20 = .int .i64 j ∧ Aside0 (0 ≤ j ∧ j ≤ (out.length : Int) ∧ (out.length : Int) - j ≤ (gg : Int)) ∧ Aside0 (∀ k : Nat, (hk : k < out.length) → (k : Int) < j → out[k] ≠ y.f1) ∧ Aside0 (wv = w3))
        case atStart => exact ⟨0, rfl, ⟨by omega, by omega, by omega⟩, ⟨fun k _ hk => absurd hk (by omega)⟩, ⟨rfl⟩⟩
        case round =>
          obtain ⟨j, rfl, HJ, HNO, HW⟩ := hrel
          obtain rfl := HW.out
          clear HW
          by_cases hjl : j < (out.length : Int)
          · have hjlb : decide (j < (out.length : Int)) = true := decide_eq_true hjl
            have hjp : 0 ≤ j := HJ.out.1
            have HJT := Aside0.mk (show j.toNat < out.length by omega)
            have HJP := Aside0.mk hjp
            obtain ⟨ado, eo, g0⟩ := Kd.at_int (Kd.R_reads' RO3.out).2.2 j hjp hjl
            cases eo
            have HZ := Aside0.mk (show out[j.toNat]'HJT.out = rd out j from by simp [rd, List.getD_eq_getElem?_getD, List.getElem?_eq_getElem HJT.out])
            obtain ⟨z, hz⟩ : ∃ z : Int, z = rd out j := ⟨_, rfl⟩
            rw [← hz] at g0
            have HZZ := Aside0.mk hz
            have hwj : wrap64 (j + 1) = j + 1 := by have := HS.out; simp only [smallN] at this; simp only [wrap64]; omega
            have hjl' := eq_true hjl
            have hjp' := eq_true hjp
            clear hjl hjp hz
            by_cases hqq : z = y.f1
            · have hqb : (z == y.f1) = true := by simp [hqq]
              have HQQ := Aside0.mk hqq
              clear hqq
              go_wp2
              go_roundg (p.length - (i.toNat + 1))
              case measure => have := HK.out; have := HLT.out; omega
              case rel =>
                refine ⟨out, i + 1, by first | rfl | (simp [hwr]; done) | go_num, ⟨by have := HPOS.out; omega, by have := HLT.out; omega, by have := HLT.out; have := HPOS.out; omega⟩, ⟨?_, by have := HV.out.2; omega⟩, RP3, RO3, HB3⟩
                have := HST.out
                rw [HQ.out, contains_at HJT.out (by rw [HZ.out, ← HZZ.out, HQQ.out])] at this
                rw [show (i + 1).toNat = i.toNat + 1 by have := HPOS.out; omega]
                simpa using this.symm
            · have hqb : (z == y.f1) = false := by simp [hqq]
              have HQQ := Aside0.mk hqq
              clear hqq
              go_wp2
              go_roundg (out.length - (j.toNat + 1))
              case measure => have := HJ.out; have := HJT.out; omega
              case rel =>
                refine ⟨j + 1, by first | rfl | (simp [hwj]; done) | go_num, ⟨by have := HJP.out; omega, by have := HJT.out; omega, by have := HJT.out; have := HJP.out; omega⟩, ⟨fun k hk hkj => ?_⟩, ⟨rfl⟩⟩
                by_cases e : (k : Int) = j
                · subst e; have := HZ.out; simp at this; rw [this, ← HZZ.out]; exact HQQ.out
                · exact HNO.out k hk (by omega)
          · have hjlb : decide (j < (out.length : Int)) = false := decide_eq_false hjl
            have HNC := Aside0.mk (contains_no (out := out) (v := y.f1) (fun k hk => HNO.out k hk (by omega)))
            clear hjl
            go_wp2_with (first
              | ((with_reducible refine gate_builtin (b := .append) (xs := #[.tmp 29, .tmp 32]) rfl ?_); at_builtin; refine Kd.R_append (Kd.int .i64) (w0 := w) w.heap.size rfl (.tmp 29) (.tmp 32) 46 3 (.int .i64 0) 8 rfl Tryd.underlying46 info3 rfl (by decide) (by omega) (.slice Ao out.length co) out (y.f1) [.int .i64 (y.f1)] (fun _ => True) (fun _ => False) rfl rfl ?aP (fun _ hk => hk.elim) ?aF ?aO ?aB ?aS ?aL ?_; (case aP => exact rfl); (case aB => first | exact HB3.out | exact below_alloc HB3.out _); (case aF => exact (fun _ _ => trivial)); (case aO => first | exact RO3.out | exact Kd.R_alloc RO3.out _); (case aS => first | exact below_size HB3.out | exact below_size (below_alloc HB3.out _)); (case aL => have := HS.out; simp only [smallN] at this; omega); intro v4 w4 ho hb hg hat; have RO4 := Aside0.mk ho; have HB4 := Aside0.mk hb; have RP4 := Aside0.mk (Kd.R_over' (by first | exact RP3.out | exact Kd.R_alloc RP3.out _) (Kd.R_typed (by first | exact RO3.out | exact Kd.R_alloc RO3.out _)) (by decide) hg); clear ho hb hg hat)
              | go_in)
            go_roundg (p.length - (i.toNat + 1))
            case measure => have := HK.out; have := HLT.out; omega
            case rel =>
              refine ⟨out ++ [y.f1], i + 1, by first | rfl | (simp [hwr]; done) | go_num, ⟨by have := HPOS.out; omega, by have := HLT.out; omega, by have := HLT.out; have := HPOS.out; omega⟩, ⟨?_, by have := HV.out.2; simp; omega⟩, RP4, RO4, HB4⟩
              have := HST.out
              rw [HQ.out, HNC.out] at this
              rw [show (i + 1).toNat = i.toNat + 1 by have := HPOS.out; omega]
              simpa using this.symm
    · have hltb : decide (i < (p.length : Int)) = false := decide_eq_false hlt
      have HN := Aside0.mk (show i.toNat = p.length by have := HK.out; omega)
      clear hlt
      go_wp2
      (try rw [Exit.noGoto_ret])
      go_ret
      refine ⟨_, rfl, ?_, HB1.out⟩
      have := HV.out.1
      rw [HN.out, List.drop_length] at this
      rw [← this]
      exact RO.out
end Go.Proofs.YtnomgmlfagiffaaDoor.T
/- The walk of TermAtoms. -/
set_option linter.unusedVariables false
set_option linter.unusedSimpArgs false
namespace Go.Proofs.YtnomgmlfagiffaaDoor.T
open Go.RowKit Go.Proofs.YtnomgmlfagiffaaDoorW.PrintWords Go.Proofs.YtnomgmlfagiffaaDoorW.PrintLast
/-- What the walk carries: nothing old has turned, the lent lists are as they were made, its own four variables. -/
structure AInv (w W : World) (t : Tm) (nm : ByteArray) (l : List Tm) (A0 : Option Addr) (c0 : Nat) (u : Tm) (nn : ByteArray) (m : List Tm) (A1 : Option Addr) (c1 : Nat) (g1 d1 g2 d2 b2 b3 b5 b6 : Nat) : Prop where
  below : Below w.heap.size w W
  x : Kd.R k23 23 W w.heap.size (fun _ => True) (.slice (some ⟨g1, 0, none⟩) (l.length + 1) d1) (l ++ [markT])
  y : Kd.R k23 23 W w.heap.size (fun _ => True) (.slice (some ⟨g2, 0, none⟩) (m.length + 1) d2) (m ++ [markT])
  k2 : W.heap[b2]? = some (.cells #[.int .i64 t.f0, .int .i64 t.f1, .string t.f2, .string nm, .slice A0 l.length c0] 26 (0, 0))
  k3 : W.heap[b3]? = some (.cells #[.int .i64 u.f0, .int .i64 u.f1, .string u.f2, .string nn, .slice A1 m.length c1] 26 (0, 0))
  k5 : W.heap[b5]? = some (.cells #[.int .i64 t.f0, .int .i64 t.f1, .string t.f2, .string nm, .slice (some ⟨g1, 0, none⟩) l.length d1] 26 (0, 0))
  k6 : W.heap[b6]? = some (.cells #[.int .i64 u.f0, .int .i64 u.f1, .string u.f2, .string nn, .slice (some ⟨g2, 0, none⟩) m.length d2] 26 (0, 0))
theorem AInv.up {w W W' : World} {t : Tm} {nm : ByteArray} {l : List Tm} {A0 : Option Addr} {c0 : Nat} {u : Tm} {nn : ByteArray} {m : List Tm} {A1 : Option Addr} {c1 : Nat} {g1 d1 g2 d2 b2 b3 b5 b6 : Nat} (h : AInv w W t nm l A0 c0 u nn m A1 c1 g1 d1 g2 d2 b2 b3 b5 b6) (hb : Below W.heap.size W W') : AInv w W' t nm l A0 c0 u nn m A1 c1 g1 d1 g2 d2 b2 b3 b5 b6 :=
  ⟨below_step h.below hb, Kd.R_below h.x hb, Kd.R_below h.y hb, blk_below h.k2 hb, blk_below h.k3 hb, blk_below h.k5 hb, blk_below h.k6 hb⟩
theorem AInv.drew {w W : World} {t : Tm} {nm : ByteArray} {l : List Tm} {A0 : Option Addr} {c0 : Nat} {u : Tm} {nn : ByteArray} {m : List Tm} {A1 : Option Addr} {c1 : Nat} {g1 d1 g2 d2 b2 b3 b5 b6 : Nat} (h : AInv w W t nm l A0 c0 u nn m A1 c1 g1 d1 g2 d2 b2 b3 b5 b6) : AInv w W.drew t nm l A0 c0 u nn m A1 c1 g1 d1 g2 d2 b2 b3 b5 b6 :=
  h.up (Below.refl _ W).drew
set_option maxHeartbeats 8000000 in
set_option maxRecDepth 100000 in
theorem atoms_calls (t : Tm) (nm : ByteArray) (l : List Tm) (A0 : Option Addr) (c0 : Nat) (u : Tm) (nn : ByteArray) (m : List Tm) (A1 : Option Addr) (c1 : Nat) (w : World)
    (hr0 : Kd.C k23 w A0 l.length l) (hc0 : l.length ≤ c0) (hr1 : Kd.C k23 w A1 m.length m) (hc1 : m.length ≤ c1)
    (ot : okT t = true) (ol : l.all okT = true) (ou : okT u = true) (om : m.all okT = true) (hLn : Laid2 w) (hLm : Laid1 w) (hn : nm.size ≤ 9223372036854775807) (hm : nn.size ≤ 9223372036854775807) (ll : l.length + 2 < smallN) (lm : m.length + 2 < smallN) :
    Calls Tryd.prog 10 #[.agg #[.int .i64 t.f0, .int .i64 t.f1, .string t.f2, .string nm, .slice A0 l.length c0], .agg #[.int .i64 u.f0, .int .i64 u.f1, .string u.f2, .string nn, .slice A1 m.length c1]] w fun e w' => e = .returned (.bool true) ∧ Below w.heap.size w w' := by
  have hu26 := Tryd.underlying26
  have hu23 := Tryd.underlying23
  have H0 := Aside0.mk (show Kd.C k23 w A0 l.length l ∧ l.length ≤ c0 from ⟨hr0, hc0⟩)
  have H1 := Aside0.mk (show Kd.C k23 w A1 m.length m ∧ m.length ≤ c1 from ⟨hr1, hc1⟩)
  have HLN := Aside0.mk hLn
  have HM := Aside0.mk hLm
  have HS := Aside0.mk (show l.length < smallN ∧ m.length < smallN from ⟨by omega, by omega⟩)
  obtain ⟨rc, hrc⟩ : ∃ rc, checkA t nm l = rc := ⟨_, rfl⟩
  obtain ⟨fb, hfb⟩ : ∃ fb, factA t nm l = fb := ⟨_, rfl⟩
  obtain ⟨vs, hvs⟩ : ∃ vs, varsL (t :: l) [] = vs := ⟨_, rfl⟩
  obtain ⟨q1, hq1⟩ : ∃ q, cmpA t nm l u nn m = q := ⟨_, rfl⟩
  obtain ⟨q2, hq2⟩ : ∃ q, cmpA u nn m t nm l = q := ⟨_, rfl⟩
  obtain ⟨K1, hK1⟩ := rcmpA_f t u nm nn l m ot ou hn hm ol om (by omega)
  obtain ⟨K2, hK2⟩ := rcmpA_f u t nn nm m l ou ot hm hn om ol (by omega)
  have HF := Aside0.mk (show term_CheckAtom.f 40 t.f0 t.f1 t.f2 nm l = some rc ∧ hearsayref02_CheckAtom.f 40 t.f0 t.f1 t.f2 nm l = some rc ∧ term_Fact.f 40 t.f0 t.f1 t.f2 nm l = some fb ∧ hearsayref02_Fact.f (2 * l.length + 40) t.f0 t.f1 t.f2 nm l = some fb ∧ term_Vars.f t.f0 t.f1 t.f2 nm l = some vs ∧ hearsayref02_Vars.f (2 * l.length + 6) t.f0 t.f1 t.f2 nm l = some vs ∧ vs.length < smallN ∧ True from
    ⟨by rw [check_f t nm l ol (by omega) _ (Nat.le_refl _), hrc], by rw [rcheckAtom_f t nm l _ (Nat.le_refl _), hrc], by rw [fact_f t nm l ol (by omega) _ (Nat.le_refl _), hfb], by rw [rfact_f t nm l (by omega) _ (Nat.le_refl _), hfb],
     by unfold term_Vars.f; rw [if_pos (by omega), hvs], by rw [rvars_f t nm l (by omega) _ (Nat.le_refl _), hvs], by have := varsL_len (t :: l) []; rw [hvs] at this; simp at this; omega, trivial⟩)
  have HG := Aside0.mk (show term_CompareAtoms.f 4 t.f0 t.f1 t.f2 nm l u.f0 u.f1 u.f2 nn m = some q1 ∧ hearsayref02_CompareAtoms.f K1 t.f0 t.f1 t.f2 nm l u.f0 u.f1 u.f2 nn m = some q1 ∧ term_CompareAtoms.f 4 u.f0 u.f1 u.f2 nn m t.f0 t.f1 t.f2 nm l = some q2 ∧ hearsayref02_CompareAtoms.f K2 u.f0 u.f1 u.f2 nn m t.f0 t.f1 t.f2 nm l = some q2 from
    ⟨by rw [cmpA_f t u nm nn l m ol om (by omega) 0, hq1], by rw [hK1 _ (Nat.le_refl _), hq1], by rw [cmpA_f u t nn nm m l om ol (by omega) 0, hq2], by rw [hK2 _ (Nat.le_refl _), hq2]⟩)
  clear hr0 hc0 hr1 hc1 ot ol ou om hLn hLm hn hm ll lm hrc hfb hvs hq1 hq2 hK1 hK2
  go_enter Tryd.func10, Tryd.ntmps10
  go_wp2_with (first
    | ((with_reducible refine gate_dst (N := 2) rfl ?_); refine box_event ?hg (N := 2) ?hd (cs := #[.int .i64 t.f0, .int .i64 t.f1, .string t.f2, .string nm, .slice A0 l.length c0]) (t := 26) ?hr ?_; (case hd => rfl); (case hg => rfl); (case hr => first | (go_simp; done) | (go_simp; rfl)); intro b2 hb2 w00 hbox hb; have K20 := Aside0.mk hbox; have HB00 := Aside0.mk hb; clear hb2 hbox hb)
    | ((with_reducible refine gate_dst (N := 3) rfl ?_); refine box_event ?hg (N := 3) ?hd (cs := #[.int .i64 u.f0, .int .i64 u.f1, .string u.f2, .string nn, .slice A1 m.length c1]) (t := 26) ?hr ?_; (case hd => rfl); (case hg => rfl); (case hr => first | (go_simp; done) | (go_simp; rfl)); intro b3 hb3 w0 hbox hb; have K2 := Aside0.mk (blk_below K20.out hb); have K3 := Aside0.mk hbox; have HB0 := Aside0.mk (below_step HB00.out hb); clear hb3 hbox hb K20 HB00; have p0 := (blk_cell K2.out 0).trans rfl; have p1 := (blk_cell K2.out 1).trans rfl; have p2 := (blk_cell K2.out 2).trans rfl; have p3 := (blk_cell K2.out 3).trans rfl; have p4 := (blk_cell K2.out 4).trans rfl)
    | (go_at_call 13; refine (lent_calls t nm A0 c0 l _ (Kd.C_below H0.out.1 HB0.out) H0.out.2 (Laid1.up HM.out HB0.out) HS.out.1).mono ?_; rintro e w1 ⟨g1, d1, rfl, hR, hb⟩; have RX := Aside0.mk (Kd.R_lower hR HB0.out.size); have HB1 := Aside0.mk (below_step HB0.out hb); have K21 := Aside0.mk (blk_below K2.out hb); have K31 := Aside0.mk (blk_below K3.out hb); clear hR hb K2 K3 HB0 p0 p1 p2 p3 p4; have q0 := (blk_cell K31.out 0).trans rfl; have q1 := (blk_cell K31.out 1).trans rfl; have q2 := (blk_cell K31.out 2).trans rfl; have q3 := (blk_cell K31.out 3).trans rfl; have q4 := (blk_cell K31.out 4).trans rfl; have qa0 := fun o => (blk_cell (blk_alloc K31.out o) 0).trans rfl; have qa1 := fun o => (blk_cell (blk_alloc K31.out o) 1).trans rfl; have qa2 := fun o => (blk_cell (blk_alloc K31.out o) 2).trans rfl; have qa3 := fun o => (blk_cell (blk_alloc K31.out o) 3).trans rfl; have qa4 := fun o => (blk_cell (blk_alloc K31.out o) 4).trans rfl)
    | (go_at_call 13; refine (lent_calls u nn A1 c1 m _ (Kd.C_below H1.out.1 (below_alloc HB1.out _)) H1.out.2 (Laid1.up HM.out (below_alloc HB1.out _)) HS.out.2).mono ?_; rintro e w2 ⟨g2, d2, rfl, hR, hb⟩; have HB2 := Aside0.mk (below_step (below_alloc HB1.out _) hb); have RX2 := Aside0.mk (Kd.R_below RX.out (below_step (below_alloc (Below.refl _ w1) _) hb)); have RY := Aside0.mk (Kd.R_lower hR (below_alloc HB1.out _).size); have K22 := Aside0.mk (blk_below (blk_alloc K21.out _) hb); have K32 := Aside0.mk (blk_below (blk_alloc K31.out _) hb); have K52 := Aside0.mk (blk_below (blk_new w1 _) hb); clear hR hb K21 K31 HB1 RX q0 q1 q2 q3 q4 qa0 qa1 qa2 qa3 qa4)
    | go_in)
  have hbn := blk_new w2 (Obj.cells #[.int .i64 u.f0, .int .i64 u.f1, .string u.f2, .string nn, .slice (some ⟨g2, 0, none⟩) m.length d2] 26 (0, 0))
  have hbx := below_alloc (Below.refl w2.heap.size w2) (Obj.cells #[.int .i64 u.f0, .int .i64 u.f1, .string u.f2, .string nn, .slice (some ⟨g2, 0, none⟩) m.length d2] 26 (0, 0))
  generalize w2.alloc (Obj.cells #[.int .i64 u.f0, .int .i64 u.f1, .string u.f2, .string nn, .slice (some ⟨g2, 0, none⟩) m.length d2] 26 (0, 0)) = w3 at hbn hbx ⊢
  have I3 : Aside0 (AInv w w3.drew t nm l A0 c0 u nn m A1 c1 g1 d1 g2 d2 b2 b3 w1.heap.size w2.heap.size) := ⟨AInv.drew ⟨below_step HB2.out hbx, Kd.R_below RX2.out hbx, Kd.R_below RY.out hbx, blk_below K22.out hbx, blk_below K32.out hbx, blk_below K52.out hbx, hbn⟩⟩
  clear hbn hbx HB2 RX2 RY K22 K32 K52
  refine start_ (n := 20) (S := fun w' => w'.cell? ⟨b2, 0, none⟩ = some (.int .i64 t.f0) ∧ w'.cell? ⟨b2, 1, none⟩ = some (.int .i64 t.f1) ∧ w'.cell? ⟨b2, 2, none⟩ = some (.string t.f2) ∧ w'.cell? ⟨b2, 3, none⟩ = some (.string nm) ∧ w'.cell? ⟨b2, 4, none⟩ = some (.slice A0 l.length c0) ∧ w'.cell? ⟨w1.heap.size, 0, none⟩ = some (.int .i64 t.f0) ∧ w'.cell? ⟨w1.heap.size, 1, none⟩ = some (.int .i64 t.f1) ∧ w'.cell? ⟨w1.heap.size, 2, none⟩ = some (.string t.f2) ∧ w'.cell? ⟨w1.heap.size, 3, none⟩ = some (.string nm) ∧ w'.cell? ⟨w1.heap.size, 4, none⟩ = some (.slice (some ⟨g1, 0, none⟩) l.length d1)) (ds := []) #[false, false, false, false, false, false, false, false, false, false, false, false, false, false, false, false, false, false, false, false] (by kernel_rfl) rfl rfl ⟨(blk_cell I3.out.k2 0).trans rfl, (blk_cell I3.out.k2 1).trans rfl, (blk_cell I3.out.k2 2).trans rfl, (blk_cell I3.out.k2 3).trans rfl, (blk_cell I3.out.k2 4).trans rfl, (blk_cell I3.out.k5 0).trans rfl, (blk_cell I3.out.k5 1).trans rfl, (blk_cell I3.out.k5 2).trans rfl, (blk_cell I3.out.k5 3).trans rfl, (blk_cell I3.out.k5 4).trans rfl⟩ (fun hHeld => ?_)
  refine take_ (i := 0) (N := some 11) (v := ?_) (a' := ?_) #[true, false, false, false, false, false, false, false, false, false, false, false, false, false, false, false, false, false, false, false] rfl rfl (by kernel_rfl) (fun _ _ _ h => h) (Or.inl ⟨by rfl, ?_⟩) hHeld ?_ ?_
  rotate_left
  · rintro w' ⟨s0, s1, s2, s3, s4, s5, s6, s7, s8, s9⟩
    go_simp
    with_reducible rfl
  rotate_left
  · simp only [Act.put, List.setIfInBounds_toArray, List.set_cons_zero, List.set_cons_succ, i64_w, i32_w]
    rfl
  refine take_ (i := 2) (N := some 13) (v := ?_) (a' := ?_) #[true, false, true, false, false, false, false, false, false, false, false, false, false, false, false, false, false, false, false, false] rfl rfl (by kernel_rfl) (fun _ _ _ h => h) (Or.inl ⟨by rfl, ?_⟩) hHeld ?_ ?_
  rotate_left
  · rintro w' ⟨s0, s1, s2, s3, s4, s5, s6, s7, s8, s9⟩
    go_simp
    with_reducible rfl
  rotate_left
  · simp only [Act.put, List.setIfInBounds_toArray, List.set_cons_zero, List.set_cons_succ, i64_w, i32_w]
    rfl
  refine one_ (i := 1) (N := some 12) #[true, true, true, false, false, false, false, false, false, false, false, false, false, false, false, false, false, false, false, false] rfl rfl (by kernel_rfl) (by decide) (fun K hK => ?_)
  refine goes_ Tryd.func39 (by kernel_rfl) rfl #[.agg #[.int .i64 t.f0, .int .i64 t.f1, .string t.f2, .string nm, .slice (some ⟨g1, 0, none⟩) l.length d1]] (by rfl) rfl rfl (by simp only [List.map_toArray, List.map_cons, List.map_nil]; rfl) ?_
  with_reducible refine (term_CheckAtom.calls 40 t.f0 t.f1 t.f2 nm (some ⟨g1, 0, none⟩) d1 l rc _ (C_front (R_C' I3.out.x)) (by have := R_room I3.out.x (by simp); simp at this; omega) (Laid2.up HLN.out I3.out.below) HF.out.1).mono ?_
  rintro e w4 ⟨rfl, hb⟩
  refine ⟨_, rfl, ?_⟩
  have I4 := Aside0.mk (I3.out.up hb)
  clear hb
  refine hK.out _ _ ⟨(blk_cell I4.out.k2 0).trans rfl, (blk_cell I4.out.k2 1).trans rfl, (blk_cell I4.out.k2 2).trans rfl, (blk_cell I4.out.k2 3).trans rfl, (blk_cell I4.out.k2 4).trans rfl, (blk_cell I4.out.k5 0).trans rfl, (blk_cell I4.out.k5 1).trans rfl, (blk_cell I4.out.k5 2).trans rfl, (blk_cell I4.out.k5 3).trans rfl, (blk_cell I4.out.k5 4).trans rfl⟩ (fun hHeld => ?_)
  clear hK K
  refine norm_ (a' := ?_) ?_ ?_
  rotate_left
  · show Act.put _ (some 12) _ = _
    simp only [Act.put, List.setIfInBounds_toArray, List.set_cons_zero, List.set_cons_succ, i64_w, i32_w]
    rfl
  refine one_ (i := 3) (N := some 14) #[true, true, true, true, false, false, false, false, false, false, false, false, false, false, false, false, false, false, false, false] rfl rfl (by kernel_rfl) (by decide) (fun K hK => ?_)
  refine goes_ Tryd.func40 (by kernel_rfl) rfl #[.agg #[.int .i64 t.f0, .int .i64 t.f1, .string t.f2, .string nm, .slice A0 l.length c0]] (by rfl) rfl rfl (by simp only [List.map_toArray, List.map_cons, List.map_nil]; rfl) ?_
  with_reducible refine (hearsayref02_CheckAtom.calls 40 t.f0 t.f1 t.f2 nm A0 c0 l rc _ (Kd.C_below H0.out.1 I4.out.below) H0.out.2 HF.out.2.1).mono ?_
  rintro e w5 ⟨rfl, hb⟩
  refine ⟨_, rfl, ?_⟩
  have I5 := Aside0.mk (I4.out.up hb)
  clear hb
  refine hK.out _ _ ⟨(blk_cell I5.out.k2 0).trans rfl, (blk_cell I5.out.k2 1).trans rfl, (blk_cell I5.out.k2 2).trans rfl, (blk_cell I5.out.k2 3).trans rfl, (blk_cell I5.out.k2 4).trans rfl, (blk_cell I5.out.k5 0).trans rfl, (blk_cell I5.out.k5 1).trans rfl, (blk_cell I5.out.k5 2).trans rfl, (blk_cell I5.out.k5 3).trans rfl, (blk_cell I5.out.k5 4).trans rfl⟩ (fun hHeld => ?_)
  clear hK K
  refine norm_ (a' := ?_) ?_ ?_
  rotate_left
  · show Act.put _ (some 14) _ = _
    simp only [Act.put, List.setIfInBounds_toArray, List.set_cons_zero, List.set_cons_succ, i64_w, i32_w]
    rfl
  refine pure_ (i := 4) (N := some 15) (v := ?_) (a' := ?_) #[true, true, true, true, true, false, false, false, false, false, false, false, false, false, false, false, false, false, false, false] rfl rfl (by kernel_rfl) (fun _ _ _ h => h) (Or.inl ⟨by rfl, ?_⟩) ?_ ?_
  rotate_left
  · intro w'
    go_simp
    with_reducible rfl
  rotate_left
  · simp only [Act.put, List.setIfInBounds_toArray, List.set_cons_zero, List.set_cons_succ, i64_w, i32_w]
    rfl
  refine pure_ (i := 5) (N := some 16) (v := ?_) (a' := ?_) #[true, true, true, true, true, true, false, false, false, false, false, false, false, false, false, false, false, false, false, false] rfl rfl (by kernel_rfl) (fun _ _ _ h => h) (Or.inl ⟨by rfl, ?_⟩) ?_ ?_
  rotate_left
  · intro w'
    go_simp
    with_reducible rfl
  rotate_left
  · simp only [Act.put, List.setIfInBounds_toArray, List.set_cons_zero, List.set_cons_succ, i64_w, i32_w]
    rfl
  refine take_ (i := 6) (N := some 17) (v := ?_) (a' := ?_) #[true, true, true, true, true, true, true, false, false, false, false, false, false, false, false, false, false, false, false, false] rfl rfl (by kernel_rfl) (fun _ _ _ h => h) (Or.inl ⟨by rfl, ?_⟩) hHeld ?_ ?_
  rotate_left
  · rintro w' ⟨s0, s1, s2, s3, s4, s5, s6, s7, s8, s9⟩
    go_simp
    with_reducible rfl
  rotate_left
  · simp only [Act.put, List.setIfInBounds_toArray, List.set_cons_zero, List.set_cons_succ, i64_w, i32_w]
    rfl
  refine take_ (i := 8) (N := some 19) (v := ?_) (a' := ?_) #[true, true, true, true, true, true, true, false, true, false, false, false, false, false, false, false, false, false, false, false] rfl rfl (by kernel_rfl) (fun _ _ _ h => h) (Or.inl ⟨by rfl, ?_⟩) hHeld ?_ ?_
  rotate_left
  · rintro w' ⟨s0, s1, s2, s3, s4, s5, s6, s7, s8, s9⟩
    go_simp
    with_reducible rfl
  rotate_left
  · simp only [Act.put, List.setIfInBounds_toArray, List.set_cons_zero, List.set_cons_succ, i64_w, i32_w]
    rfl
  refine one_ (i := 7) (N := some 18) #[true, true, true, true, true, true, true, true, true, false, false, false, false, false, false, false, false, false, false, false] rfl rfl (by kernel_rfl) (by decide) (fun K hK => ?_)
  refine goes_ Tryd.func41 (by kernel_rfl) rfl #[.agg #[.int .i64 t.f0, .int .i64 t.f1, .string t.f2, .string nm, .slice (some ⟨g1, 0, none⟩) l.length d1]] (by rfl) rfl rfl (by simp only [List.map_toArray, List.map_cons, List.map_nil]; rfl) ?_
  with_reducible refine (term_Fact.calls 40 t.f0 t.f1 t.f2 nm (some ⟨g1, 0, none⟩) d1 l fb _ (C_front (R_C' I5.out.x)) (by have := R_room I5.out.x (by simp); simp at this; omega) (Laid2.up HLN.out I5.out.below) HF.out.2.2.1).mono ?_
  rintro e w6 ⟨rfl, hb⟩
  refine ⟨_, rfl, ?_⟩
  have I6 := Aside0.mk (I5.out.up hb)
  clear hb
  refine hK.out _ _ ⟨(blk_cell I6.out.k2 0).trans rfl, (blk_cell I6.out.k2 1).trans rfl, (blk_cell I6.out.k2 2).trans rfl, (blk_cell I6.out.k2 3).trans rfl, (blk_cell I6.out.k2 4).trans rfl, (blk_cell I6.out.k5 0).trans rfl, (blk_cell I6.out.k5 1).trans rfl, (blk_cell I6.out.k5 2).trans rfl, (blk_cell I6.out.k5 3).trans rfl, (blk_cell I6.out.k5 4).trans rfl⟩ (fun hHeld => ?_)
  clear hK K
  refine norm_ (a' := ?_) ?_ ?_
  rotate_left
  · show Act.put _ (some 18) _ = _
    simp only [Act.put, List.setIfInBounds_toArray, List.set_cons_zero, List.set_cons_succ, i64_w, i32_w]
    rfl
  refine one_ (i := 9) (N := some 20) #[true, true, true, true, true, true, true, true, true, true, false, false, false, false, false, false, false, false, false, false] rfl rfl (by kernel_rfl) (by decide) (fun K hK => ?_)
  refine goes_ Tryd.func42 (by kernel_rfl) rfl #[.agg #[.int .i64 t.f0, .int .i64 t.f1, .string t.f2, .string nm, .slice A0 l.length c0]] (by rfl) rfl rfl (by simp only [List.map_toArray, List.map_cons, List.map_nil]; rfl) ?_
  with_reducible refine (hearsayref02_Fact.calls (2 * l.length + 40) t.f0 t.f1 t.f2 nm A0 c0 l fb _ (Kd.C_below H0.out.1 I6.out.below) H0.out.2 HF.out.2.2.2.1).mono ?_
  rintro e w7 ⟨rfl, hb⟩
  refine ⟨_, rfl, ?_⟩
  have I7 := Aside0.mk (I6.out.up hb)
  clear hb
  refine hK.out _ _ ⟨(blk_cell I7.out.k2 0).trans rfl, (blk_cell I7.out.k2 1).trans rfl, (blk_cell I7.out.k2 2).trans rfl, (blk_cell I7.out.k2 3).trans rfl, (blk_cell I7.out.k2 4).trans rfl, (blk_cell I7.out.k5 0).trans rfl, (blk_cell I7.out.k5 1).trans rfl, (blk_cell I7.out.k5 2).trans rfl, (blk_cell I7.out.k5 3).trans rfl, (blk_cell I7.out.k5 4).trans rfl⟩ (fun hHeld => ?_)
  clear hK K
  refine norm_ (a' := ?_) ?_ ?_
  rotate_left
  · show Act.put _ (some 20) _ = _
    simp only [Act.put, List.setIfInBounds_toArray, List.set_cons_zero, List.set_cons_succ, i64_w, i32_w]
    rfl
  refine pure_ (i := 10) (N := some 21) (v := ?_) (a' := ?_) #[true, true, true, true, true, true, true, true, true, true, true, false, false, false, false, false, false, false, false, false] rfl rfl (by kernel_rfl) (fun _ _ _ h => h) (Or.inl ⟨by rfl, ?_⟩) ?_ ?_
  rotate_left
  · intro w'
    go_simp
    with_reducible rfl
  rotate_left
  · simp only [Act.put, List.setIfInBounds_toArray, List.set_cons_zero, List.set_cons_succ, i64_w, i32_w]
    rfl
  refine pure_ (i := 11) (N := some 22) (v := ?_) (a' := ?_) #[true, true, true, true, true, true, true, true, true, true, true, true, false, false, false, false, false, false, false, false] rfl rfl (by kernel_rfl) (fun _ _ _ h => h) (Or.inl ⟨by rfl, ?_⟩) ?_ ?_
  rotate_left
  · intro w'
    go_simp
    with_reducible rfl
  rotate_left
  · simp only [Act.put, List.setIfInBounds_toArray, List.set_cons_zero, List.set_cons_succ, i64_w, i32_w]
    rfl
  refine pure_ (i := 12) (N := some 23) (v := ?_) (a' := ?_) #[true, true, true, true, true, true, true, true, true, true, true, true, true, false, false, false, false, false, false, false] rfl rfl (by kernel_rfl) (fun _ _ _ h => h) (Or.inl ⟨by rfl, ?_⟩) ?_ ?_
  rotate_left
  · intro w'
    go_simp
    with_reducible rfl
  rotate_left
  · simp only [Act.put, List.setIfInBounds_toArray, List.set_cons_zero, List.set_cons_succ, i64_w, i32_w]
    rfl
  refine take_ (i := 13) (N := some 24) (v := ?_) (a' := ?_) #[true, true, true, true, true, true, true, true, true, true, true, true, true, true, false, false, false, false, false, false] rfl rfl (by kernel_rfl) (fun _ _ _ h => h) (Or.inl ⟨by rfl, ?_⟩) hHeld ?_ ?_
  rotate_left
  · rintro w' ⟨s0, s1, s2, s3, s4, s5, s6, s7, s8, s9⟩
    go_simp
    with_reducible rfl
  rotate_left
  · simp only [Act.put, List.setIfInBounds_toArray, List.set_cons_zero, List.set_cons_succ, i64_w, i32_w]
    rfl
  refine take_ (i := 15) (N := some 26) (v := ?_) (a' := ?_) #[true, true, true, true, true, true, true, true, true, true, true, true, true, true, false, true, false, false, false, false] rfl rfl (by kernel_rfl) (fun _ _ _ h => h) (Or.inl ⟨by rfl, ?_⟩) hHeld ?_ ?_
  rotate_left
  · rintro w' ⟨s0, s1, s2, s3, s4, s5, s6, s7, s8, s9⟩
    go_simp
    with_reducible rfl
  rotate_left
  · simp only [Act.put, List.setIfInBounds_toArray, List.set_cons_zero, List.set_cons_succ, i64_w, i32_w]
    rfl
  refine one_ (i := 14) (N := some 25) #[true, true, true, true, true, true, true, true, true, true, true, true, true, true, true, true, false, false, false, false] rfl rfl (by kernel_rfl) (by decide) (fun K hK => ?_)
  refine goes_ Tryd.func28 (by kernel_rfl) rfl #[.agg #[.int .i64 t.f0, .int .i64 t.f1, .string t.f2, .string nm, .slice (some ⟨g1, 0, none⟩) l.length d1]] (by rfl) rfl rfl (by simp only [List.map_toArray, List.map_cons, List.map_nil]; rfl) ?_
  with_reducible refine (term_Vars.calls t.f0 t.f1 t.f2 nm (some ⟨g1, 0, none⟩) d1 l vs _ (C_front (R_C' I7.out.x)) (by have := R_room I7.out.x (by simp); simp at this; omega) HF.out.2.2.2.2.1).mono ?_
  rintro e w8 ⟨va, rfl, hRa, hb⟩
  refine ⟨_, rfl, ?_⟩
  obtain ⟨Aa, ca, rfl⟩ := Kd.R_slice hRa
  have RA := Aside0.mk hRa
  have I8 := Aside0.mk (I7.out.up hb)
  clear hRa
  clear hb
  refine hK.out _ _ ⟨(blk_cell I8.out.k2 0).trans rfl, (blk_cell I8.out.k2 1).trans rfl, (blk_cell I8.out.k2 2).trans rfl, (blk_cell I8.out.k2 3).trans rfl, (blk_cell I8.out.k2 4).trans rfl, (blk_cell I8.out.k5 0).trans rfl, (blk_cell I8.out.k5 1).trans rfl, (blk_cell I8.out.k5 2).trans rfl, (blk_cell I8.out.k5 3).trans rfl, (blk_cell I8.out.k5 4).trans rfl⟩ (fun hHeld => ?_)
  clear hK K
  refine norm_ (a' := ?_) ?_ ?_
  rotate_left
  · show Act.put _ (some 25) _ = _
    simp only [Act.put, List.setIfInBounds_toArray, List.set_cons_zero, List.set_cons_succ, i64_w, i32_w]
    rfl
  refine one_ (i := 16) (N := some 27) #[true, true, true, true, true, true, true, true, true, true, true, true, true, true, true, true, true, false, false, false] rfl rfl (by kernel_rfl) (by decide) (fun K hK => ?_)
  refine goes_ Tryd.func44 (by kernel_rfl) rfl #[.agg #[.int .i64 t.f0, .int .i64 t.f1, .string t.f2, .string nm, .slice A0 l.length c0]] (by rfl) rfl rfl (by simp only [List.map_toArray, List.map_cons, List.map_nil]; rfl) ?_
  with_reducible refine (hearsayref02_Vars.calls (2 * l.length + 6) t.f0 t.f1 t.f2 nm A0 c0 l vs _ (Kd.C_below H0.out.1 I8.out.below) H0.out.2 HF.out.2.2.2.2.2.1).mono ?_
  rintro e w9 ⟨vb, rfl, hRb, hb⟩
  refine ⟨_, rfl, ?_⟩
  obtain ⟨Ab, cb, rfl⟩ := Kd.R_slice hRb
  have RB := Aside0.mk hRb
  have RA9 := Aside0.mk (Kd.R_below RA.out hb)
  have I9 := Aside0.mk (I8.out.up hb)
  clear hRb
  clear hb
  refine hK.out _ _ ⟨(blk_cell I9.out.k2 0).trans rfl, (blk_cell I9.out.k2 1).trans rfl, (blk_cell I9.out.k2 2).trans rfl, (blk_cell I9.out.k2 3).trans rfl, (blk_cell I9.out.k2 4).trans rfl, (blk_cell I9.out.k5 0).trans rfl, (blk_cell I9.out.k5 1).trans rfl, (blk_cell I9.out.k5 2).trans rfl, (blk_cell I9.out.k5 3).trans rfl, (blk_cell I9.out.k5 4).trans rfl⟩ (fun hHeld => ?_)
  clear hK K
  refine norm_ (a' := ?_) ?_ ?_
  rotate_left
  · show Act.put _ (some 27) _ = _
    simp only [Act.put, List.setIfInBounds_toArray, List.set_cons_zero, List.set_cons_succ, i64_w, i32_w]
    rfl
  refine one_ (i := 17) (N := some 28) #[true, true, true, true, true, true, true, true, true, true, true, true, true, true, true, true, true, true, false, false] rfl rfl (by kernel_rfl) (by decide) (fun K hK => ?_)
  refine goes_ Tryd.func43 (by kernel_rfl) rfl #[.slice Aa vs.length ca, .slice Ab vs.length cb] (by rfl) rfl rfl (by simp only [List.map_toArray, List.map_cons, List.map_nil]; rfl) ?_
  with_reducible refine (hearsaylaw02_ints.calls (vs.length + 1) Aa ca vs Ab cb vs true _ (R_C' RA9.out) (R_cap RA9.out) (R_C' RB.out) (R_cap RB.out) (ints_self vs HF.out.2.2.2.2.2.2.1 _ (Nat.le_refl _))).mono ?_
  rintro e w10 ⟨rfl, hd⟩
  refine ⟨_, rfl, ?_⟩
  have hb := hd.below
  have I10 := Aside0.mk (I9.out.up hb)
  clear hb hd
  refine hK.out _ _ ⟨(blk_cell I10.out.k2 0).trans rfl, (blk_cell I10.out.k2 1).trans rfl, (blk_cell I10.out.k2 2).trans rfl, (blk_cell I10.out.k2 3).trans rfl, (blk_cell I10.out.k2 4).trans rfl, (blk_cell I10.out.k5 0).trans rfl, (blk_cell I10.out.k5 1).trans rfl, (blk_cell I10.out.k5 2).trans rfl, (blk_cell I10.out.k5 3).trans rfl, (blk_cell I10.out.k5 4).trans rfl⟩ (fun hHeld => ?_)
  clear hK K
  refine norm_ (a' := ?_) ?_ ?_
  rotate_left
  · show Act.put _ (some 28) _ = _
    simp only [Act.put, List.setIfInBounds_toArray, List.set_cons_zero, List.set_cons_succ, i64_w, i32_w]
    rfl
  refine pure_ (i := 18) (N := some 29) (v := ?_) (a' := ?_) #[true, true, true, true, true, true, true, true, true, true, true, true, true, true, true, true, true, true, true, false] rfl rfl (by kernel_rfl) (fun _ _ _ h => h) (Or.inl ⟨by rfl, ?_⟩) ?_ ?_
  rotate_left
  · intro w'
    go_simp
    with_reducible rfl
  rotate_left
  · simp only [Act.put, List.setIfInBounds_toArray, List.set_cons_zero, List.set_cons_succ, i64_w, i32_w]
    rfl
  refine pure_ (i := 19) (N := some 30) (v := ?_) (a' := ?_) #[true, true, true, true, true, true, true, true, true, true, true, true, true, true, true, true, true, true, true, true] rfl rfl (by kernel_rfl) (fun _ _ _ h => h) (Or.inl ⟨by rfl, ?_⟩) ?_ ?_
  rotate_left
  · intro w'
    go_simp
    with_reducible rfl
  rotate_left
  · simp only [Act.put, List.setIfInBounds_toArray, List.set_cons_zero, List.set_cons_succ, i64_w, i32_w]
    rfl
  refine done_ (by kernel_rfl) ?_
  clear hHeld
  go_wp2
  have I11 := Aside0.mk I10.out.drew
  refine start_ (n := 16) (S := fun w' => w'.cell? ⟨b2, 0, none⟩ = some (.int .i64 t.f0) ∧ w'.cell? ⟨b2, 1, none⟩ = some (.int .i64 t.f1) ∧ w'.cell? ⟨b2, 2, none⟩ = some (.string t.f2) ∧ w'.cell? ⟨b2, 3, none⟩ = some (.string nm) ∧ w'.cell? ⟨b2, 4, none⟩ = some (.slice A0 l.length c0) ∧ w'.cell? ⟨w1.heap.size, 0, none⟩ = some (.int .i64 t.f0) ∧ w'.cell? ⟨w1.heap.size, 1, none⟩ = some (.int .i64 t.f1) ∧ w'.cell? ⟨w1.heap.size, 2, none⟩ = some (.string t.f2) ∧ w'.cell? ⟨w1.heap.size, 3, none⟩ = some (.string nm) ∧ w'.cell? ⟨w1.heap.size, 4, none⟩ = some (.slice (some ⟨g1, 0, none⟩) l.length d1) ∧ w'.cell? ⟨b3, 0, none⟩ = some (.int .i64 u.f0) ∧ w'.cell? ⟨b3, 1, none⟩ = some (.int .i64 u.f1) ∧ w'.cell? ⟨b3, 2, none⟩ = some (.string u.f2) ∧ w'.cell? ⟨b3, 3, none⟩ = some (.string nn) ∧ w'.cell? ⟨b3, 4, none⟩ = some (.slice A1 m.length c1) ∧ w'.cell? ⟨w2.heap.size, 0, none⟩ = some (.int .i64 u.f0) ∧ w'.cell? ⟨w2.heap.size, 1, none⟩ = some (.int .i64 u.f1) ∧ w'.cell? ⟨w2.heap.size, 2, none⟩ = some (.string u.f2) ∧ w'.cell? ⟨w2.heap.size, 3, none⟩ = some (.string nn) ∧ w'.cell? ⟨w2.heap.size, 4, none⟩ = some (.slice (some ⟨g2, 0, none⟩) m.length d2)) (ds := []) #[false, false, false, false, false, false, false, false, false, false, false, false, false, false, false, false] (by kernel_rfl) rfl rfl ⟨(blk_cell I11.out.k2 0).trans rfl, (blk_cell I11.out.k2 1).trans rfl, (blk_cell I11.out.k2 2).trans rfl, (blk_cell I11.out.k2 3).trans rfl, (blk_cell I11.out.k2 4).trans rfl, (blk_cell I11.out.k5 0).trans rfl, (blk_cell I11.out.k5 1).trans rfl, (blk_cell I11.out.k5 2).trans rfl, (blk_cell I11.out.k5 3).trans rfl, (blk_cell I11.out.k5 4).trans rfl, (blk_cell I11.out.k3 0).trans rfl, (blk_cell I11.out.k3 1).trans rfl, (blk_cell I11.out.k3 2).trans rfl, (blk_cell I11.out.k3 3).trans rfl, (blk_cell I11.out.k3 4).trans rfl, (blk_cell I11.out.k6 0).trans rfl, (blk_cell I11.out.k6 1).trans rfl, (blk_cell I11.out.k6 2).trans rfl, (blk_cell I11.out.k6 3).trans rfl, (blk_cell I11.out.k6 4).trans rfl⟩ (fun hHeld => ?_)
  refine take_ (i := 0) (N := some 31) (v := ?_) (a' := ?_) #[true, false, false, false, false, false, false, false, false, false, false, false, false, false, false, false] rfl rfl (by kernel_rfl) (fun _ _ _ h => h) (Or.inl ⟨by rfl, ?_⟩) hHeld ?_ ?_
  rotate_left
  · rintro w' ⟨s0, s1, s2, s3, s4, s5, s6, s7, s8, s9, s10, s11, s12, s13, s14, s15, s16, s17, s18, s19⟩
    go_simp
    with_reducible rfl
  rotate_left
  · simp only [Act.put, List.setIfInBounds_toArray, List.set_cons_zero, List.set_cons_succ, i64_w, i32_w]
    rfl
  refine take_ (i := 1) (N := some 32) (v := ?_) (a' := ?_) #[true, true, false, false, false, false, false, false, false, false, false, false, false, false, false, false] rfl rfl (by kernel_rfl) (fun _ _ _ h => h) (Or.inl ⟨by rfl, ?_⟩) hHeld ?_ ?_
  rotate_left
  · rintro w' ⟨s0, s1, s2, s3, s4, s5, s6, s7, s8, s9, s10, s11, s12, s13, s14, s15, s16, s17, s18, s19⟩
    go_simp
    with_reducible rfl
  rotate_left
  · simp only [Act.put, List.setIfInBounds_toArray, List.set_cons_zero, List.set_cons_succ, i64_w, i32_w]
    rfl
  refine take_ (i := 3) (N := some 34) (v := ?_) (a' := ?_) #[true, true, false, true, false, false, false, false, false, false, false, false, false, false, false, false] rfl rfl (by kernel_rfl) (fun _ _ _ h => h) (Or.inl ⟨by rfl, ?_⟩) hHeld ?_ ?_
  rotate_left
  · rintro w' ⟨s0, s1, s2, s3, s4, s5, s6, s7, s8, s9, s10, s11, s12, s13, s14, s15, s16, s17, s18, s19⟩
    go_simp
    with_reducible rfl
  rotate_left
  · simp only [Act.put, List.setIfInBounds_toArray, List.set_cons_zero, List.set_cons_succ, i64_w, i32_w]
    rfl
  refine take_ (i := 4) (N := some 35) (v := ?_) (a' := ?_) #[true, true, false, true, true, false, false, false, false, false, false, false, false, false, false, false] rfl rfl (by kernel_rfl) (fun _ _ _ h => h) (Or.inl ⟨by rfl, ?_⟩) hHeld ?_ ?_
  rotate_left
  · rintro w' ⟨s0, s1, s2, s3, s4, s5, s6, s7, s8, s9, s10, s11, s12, s13, s14, s15, s16, s17, s18, s19⟩
    go_simp
    with_reducible rfl
  rotate_left
  · simp only [Act.put, List.setIfInBounds_toArray, List.set_cons_zero, List.set_cons_succ, i64_w, i32_w]
    rfl
  refine one_ (i := 2) (N := some 33) #[true, true, true, true, true, false, false, false, false, false, false, false, false, false, false, false] rfl rfl (by kernel_rfl) (by decide) (fun K hK => ?_)
  refine goes_ Tryd.func45 (by kernel_rfl) rfl #[.agg #[.int .i64 t.f0, .int .i64 t.f1, .string t.f2, .string nm, .slice (some ⟨g1, 0, none⟩) l.length d1], .agg #[.int .i64 u.f0, .int .i64 u.f1, .string u.f2, .string nn, .slice (some ⟨g2, 0, none⟩) m.length d2]] (by rfl) rfl rfl (by simp only [List.map_toArray, List.map_cons, List.map_nil]; rfl) ?_
  with_reducible refine (term_CompareAtoms.calls 4 t.f0 t.f1 t.f2 nm (some ⟨g1, 0, none⟩) d1 l u.f0 u.f1 u.f2 nn (some ⟨g2, 0, none⟩) d2 m q1 _ (C_front (R_C' I11.out.x)) (by have := R_room I11.out.x (by simp); simp at this; omega) (C_front (R_C' I11.out.y)) (by have := R_room I11.out.y (by simp); simp at this; omega) HG.out.1).mono ?_
  rintro e w12 ⟨rfl, hb⟩
  refine ⟨_, rfl, ?_⟩
  have I12 := Aside0.mk (I11.out.up hb)
  clear hb
  refine hK.out _ _ ⟨(blk_cell I12.out.k2 0).trans rfl, (blk_cell I12.out.k2 1).trans rfl, (blk_cell I12.out.k2 2).trans rfl, (blk_cell I12.out.k2 3).trans rfl, (blk_cell I12.out.k2 4).trans rfl, (blk_cell I12.out.k5 0).trans rfl, (blk_cell I12.out.k5 1).trans rfl, (blk_cell I12.out.k5 2).trans rfl, (blk_cell I12.out.k5 3).trans rfl, (blk_cell I12.out.k5 4).trans rfl, (blk_cell I12.out.k3 0).trans rfl, (blk_cell I12.out.k3 1).trans rfl, (blk_cell I12.out.k3 2).trans rfl, (blk_cell I12.out.k3 3).trans rfl, (blk_cell I12.out.k3 4).trans rfl, (blk_cell I12.out.k6 0).trans rfl, (blk_cell I12.out.k6 1).trans rfl, (blk_cell I12.out.k6 2).trans rfl, (blk_cell I12.out.k6 3).trans rfl, (blk_cell I12.out.k6 4).trans rfl⟩ (fun hHeld => ?_)
  clear hK K
  refine norm_ (a' := ?_) ?_ ?_
  rotate_left
  · show Act.put _ (some 33) _ = _
    simp only [Act.put, List.setIfInBounds_toArray, List.set_cons_zero, List.set_cons_succ, i64_w, i32_w]
    rfl
  refine one_ (i := 5) (N := some 36) #[true, true, true, true, true, true, false, false, false, false, false, false, false, false, false, false] rfl rfl (by kernel_rfl) (by decide) (fun K hK => ?_)
  refine goes_ Tryd.func46 (by kernel_rfl) rfl #[.agg #[.int .i64 t.f0, .int .i64 t.f1, .string t.f2, .string nm, .slice A0 l.length c0], .agg #[.int .i64 u.f0, .int .i64 u.f1, .string u.f2, .string nn, .slice A1 m.length c1]] (by rfl) rfl rfl (by simp only [List.map_toArray, List.map_cons, List.map_nil]; rfl) ?_
  with_reducible refine (hearsayref02_CompareAtoms.calls K1 t.f0 t.f1 t.f2 nm A0 c0 l u.f0 u.f1 u.f2 nn A1 c1 m q1 _ (Kd.C_below H0.out.1 I12.out.below) H0.out.2 (Kd.C_below H1.out.1 I12.out.below) H1.out.2 HG.out.2.1).mono ?_
  rintro e w13 ⟨rfl, hb⟩
  refine ⟨_, rfl, ?_⟩
  have I13 := Aside0.mk (I12.out.up hb)
  clear hb
  refine hK.out _ _ ⟨(blk_cell I13.out.k2 0).trans rfl, (blk_cell I13.out.k2 1).trans rfl, (blk_cell I13.out.k2 2).trans rfl, (blk_cell I13.out.k2 3).trans rfl, (blk_cell I13.out.k2 4).trans rfl, (blk_cell I13.out.k5 0).trans rfl, (blk_cell I13.out.k5 1).trans rfl, (blk_cell I13.out.k5 2).trans rfl, (blk_cell I13.out.k5 3).trans rfl, (blk_cell I13.out.k5 4).trans rfl, (blk_cell I13.out.k3 0).trans rfl, (blk_cell I13.out.k3 1).trans rfl, (blk_cell I13.out.k3 2).trans rfl, (blk_cell I13.out.k3 3).trans rfl, (blk_cell I13.out.k3 4).trans rfl, (blk_cell I13.out.k6 0).trans rfl, (blk_cell I13.out.k6 1).trans rfl, (blk_cell I13.out.k6 2).trans rfl, (blk_cell I13.out.k6 3).trans rfl, (blk_cell I13.out.k6 4).trans rfl⟩ (fun hHeld => ?_)
  clear hK K
  refine norm_ (a' := ?_) ?_ ?_
  rotate_left
  · show Act.put _ (some 36) _ = _
    simp only [Act.put, List.setIfInBounds_toArray, List.set_cons_zero, List.set_cons_succ, i64_w, i32_w]
    rfl
  refine pure_ (i := 6) (N := some 37) (v := ?_) (a' := ?_) #[true, true, true, true, true, true, true, false, false, false, false, false, false, false, false, false] rfl rfl (by kernel_rfl) (fun _ _ _ h => h) (Or.inl ⟨by rfl, ?_⟩) ?_ ?_
  rotate_left
  · intro w'
    go_simp
    with_reducible rfl
  rotate_left
  · simp only [Act.put, List.setIfInBounds_toArray, List.set_cons_zero, List.set_cons_succ, i64_w, i32_w]
    rfl
  refine pure_ (i := 7) (N := some 38) (v := ?_) (a' := ?_) #[true, true, true, true, true, true, true, true, false, false, false, false, false, false, false, false] rfl rfl (by kernel_rfl) (fun _ _ _ h => h) (Or.inl ⟨by rfl, ?_⟩) ?_ ?_
  rotate_left
  · intro w'
    go_simp
    with_reducible rfl
  rotate_left
  · simp only [Act.put, List.setIfInBounds_toArray, List.set_cons_zero, List.set_cons_succ, i64_w, i32_w]
    rfl
  refine take_ (i := 8) (N := some 39) (v := ?_) (a' := ?_) #[true, true, true, true, true, true, true, true, true, false, false, false, false, false, false, false] rfl rfl (by kernel_rfl) (fun _ _ _ h => h) (Or.inl ⟨by rfl, ?_⟩) hHeld ?_ ?_
  rotate_left
  · rintro w' ⟨s0, s1, s2, s3, s4, s5, s6, s7, s8, s9, s10, s11, s12, s13, s14, s15, s16, s17, s18, s19⟩
    go_simp
    with_reducible rfl
  rotate_left
  · simp only [Act.put, List.setIfInBounds_toArray, List.set_cons_zero, List.set_cons_succ, i64_w, i32_w]
    rfl
  refine take_ (i := 9) (N := some 40) (v := ?_) (a' := ?_) #[true, true, true, true, true, true, true, true, true, true, false, false, false, false, false, false] rfl rfl (by kernel_rfl) (fun _ _ _ h => h) (Or.inl ⟨by rfl, ?_⟩) hHeld ?_ ?_
  rotate_left
  · rintro w' ⟨s0, s1, s2, s3, s4, s5, s6, s7, s8, s9, s10, s11, s12, s13, s14, s15, s16, s17, s18, s19⟩
    go_simp
    with_reducible rfl
  rotate_left
  · simp only [Act.put, List.setIfInBounds_toArray, List.set_cons_zero, List.set_cons_succ, i64_w, i32_w]
    rfl
  refine take_ (i := 11) (N := some 42) (v := ?_) (a' := ?_) #[true, true, true, true, true, true, true, true, true, true, false, true, false, false, false, false] rfl rfl (by kernel_rfl) (fun _ _ _ h => h) (Or.inl ⟨by rfl, ?_⟩) hHeld ?_ ?_
  rotate_left
  · rintro w' ⟨s0, s1, s2, s3, s4, s5, s6, s7, s8, s9, s10, s11, s12, s13, s14, s15, s16, s17, s18, s19⟩
    go_simp
    with_reducible rfl
  rotate_left
  · simp only [Act.put, List.setIfInBounds_toArray, List.set_cons_zero, List.set_cons_succ, i64_w, i32_w]
    rfl
  refine take_ (i := 12) (N := some 43) (v := ?_) (a' := ?_) #[true, true, true, true, true, true, true, true, true, true, false, true, true, false, false, false] rfl rfl (by kernel_rfl) (fun _ _ _ h => h) (Or.inl ⟨by rfl, ?_⟩) hHeld ?_ ?_
  rotate_left
  · rintro w' ⟨s0, s1, s2, s3, s4, s5, s6, s7, s8, s9, s10, s11, s12, s13, s14, s15, s16, s17, s18, s19⟩
    go_simp
    with_reducible rfl
  rotate_left
  · simp only [Act.put, List.setIfInBounds_toArray, List.set_cons_zero, List.set_cons_succ, i64_w, i32_w]
    rfl
  refine one_ (i := 10) (N := some 41) #[true, true, true, true, true, true, true, true, true, true, true, true, true, false, false, false] rfl rfl (by kernel_rfl) (by decide) (fun K hK => ?_)
  refine goes_ Tryd.func45 (by kernel_rfl) rfl #[.agg #[.int .i64 u.f0, .int .i64 u.f1, .string u.f2, .string nn, .slice (some ⟨g2, 0, none⟩) m.length d2], .agg #[.int .i64 t.f0, .int .i64 t.f1, .string t.f2, .string nm, .slice (some ⟨g1, 0, none⟩) l.length d1]] (by rfl) rfl rfl (by simp only [List.map_toArray, List.map_cons, List.map_nil]; rfl) ?_
  with_reducible refine (term_CompareAtoms.calls 4 u.f0 u.f1 u.f2 nn (some ⟨g2, 0, none⟩) d2 m t.f0 t.f1 t.f2 nm (some ⟨g1, 0, none⟩) d1 l q2 _ (C_front (R_C' I13.out.y)) (by have := R_room I13.out.y (by simp); simp at this; omega) (C_front (R_C' I13.out.x)) (by have := R_room I13.out.x (by simp); simp at this; omega) HG.out.2.2.1).mono ?_
  rintro e w14 ⟨rfl, hb⟩
  refine ⟨_, rfl, ?_⟩
  have I14 := Aside0.mk (I13.out.up hb)
  clear hb
  refine hK.out _ _ ⟨(blk_cell I14.out.k2 0).trans rfl, (blk_cell I14.out.k2 1).trans rfl, (blk_cell I14.out.k2 2).trans rfl, (blk_cell I14.out.k2 3).trans rfl, (blk_cell I14.out.k2 4).trans rfl, (blk_cell I14.out.k5 0).trans rfl, (blk_cell I14.out.k5 1).trans rfl, (blk_cell I14.out.k5 2).trans rfl, (blk_cell I14.out.k5 3).trans rfl, (blk_cell I14.out.k5 4).trans rfl, (blk_cell I14.out.k3 0).trans rfl, (blk_cell I14.out.k3 1).trans rfl, (blk_cell I14.out.k3 2).trans rfl, (blk_cell I14.out.k3 3).trans rfl, (blk_cell I14.out.k3 4).trans rfl, (blk_cell I14.out.k6 0).trans rfl, (blk_cell I14.out.k6 1).trans rfl, (blk_cell I14.out.k6 2).trans rfl, (blk_cell I14.out.k6 3).trans rfl, (blk_cell I14.out.k6 4).trans rfl⟩ (fun hHeld => ?_)
  clear hK K
  refine norm_ (a' := ?_) ?_ ?_
  rotate_left
  · show Act.put _ (some 41) _ = _
    simp only [Act.put, List.setIfInBounds_toArray, List.set_cons_zero, List.set_cons_succ, i64_w, i32_w]
    rfl
  refine one_ (i := 13) (N := some 44) #[true, true, true, true, true, true, true, true, true, true, true, true, true, true, false, false] rfl rfl (by kernel_rfl) (by decide) (fun K hK => ?_)
  refine goes_ Tryd.func46 (by kernel_rfl) rfl #[.agg #[.int .i64 u.f0, .int .i64 u.f1, .string u.f2, .string nn, .slice A1 m.length c1], .agg #[.int .i64 t.f0, .int .i64 t.f1, .string t.f2, .string nm, .slice A0 l.length c0]] (by rfl) rfl rfl (by simp only [List.map_toArray, List.map_cons, List.map_nil]; rfl) ?_
  with_reducible refine (hearsayref02_CompareAtoms.calls K2 u.f0 u.f1 u.f2 nn A1 c1 m t.f0 t.f1 t.f2 nm A0 c0 l q2 _ (Kd.C_below H1.out.1 I14.out.below) H1.out.2 (Kd.C_below H0.out.1 I14.out.below) H0.out.2 HG.out.2.2.2).mono ?_
  rintro e w15 ⟨rfl, hb⟩
  refine ⟨_, rfl, ?_⟩
  have I15 := Aside0.mk (I14.out.up hb)
  clear hb
  refine hK.out _ _ ⟨(blk_cell I15.out.k2 0).trans rfl, (blk_cell I15.out.k2 1).trans rfl, (blk_cell I15.out.k2 2).trans rfl, (blk_cell I15.out.k2 3).trans rfl, (blk_cell I15.out.k2 4).trans rfl, (blk_cell I15.out.k5 0).trans rfl, (blk_cell I15.out.k5 1).trans rfl, (blk_cell I15.out.k5 2).trans rfl, (blk_cell I15.out.k5 3).trans rfl, (blk_cell I15.out.k5 4).trans rfl, (blk_cell I15.out.k3 0).trans rfl, (blk_cell I15.out.k3 1).trans rfl, (blk_cell I15.out.k3 2).trans rfl, (blk_cell I15.out.k3 3).trans rfl, (blk_cell I15.out.k3 4).trans rfl, (blk_cell I15.out.k6 0).trans rfl, (blk_cell I15.out.k6 1).trans rfl, (blk_cell I15.out.k6 2).trans rfl, (blk_cell I15.out.k6 3).trans rfl, (blk_cell I15.out.k6 4).trans rfl⟩ (fun hHeld => ?_)
  clear hK K
  refine norm_ (a' := ?_) ?_ ?_
  rotate_left
  · show Act.put _ (some 44) _ = _
    simp only [Act.put, List.setIfInBounds_toArray, List.set_cons_zero, List.set_cons_succ, i64_w, i32_w]
    rfl
  refine pure_ (i := 14) (N := some 45) (v := ?_) (a' := ?_) #[true, true, true, true, true, true, true, true, true, true, true, true, true, true, true, false] rfl rfl (by kernel_rfl) (fun _ _ _ h => h) (Or.inl ⟨by rfl, ?_⟩) ?_ ?_
  rotate_left
  · intro w'
    go_simp
    with_reducible rfl
  rotate_left
  · simp only [Act.put, List.setIfInBounds_toArray, List.set_cons_zero, List.set_cons_succ, i64_w, i32_w]
    rfl
  refine pure_ (i := 15) (N := some 46) (v := ?_) (a' := ?_) #[true, true, true, true, true, true, true, true, true, true, true, true, true, true, true, true] rfl rfl (by kernel_rfl) (fun _ _ _ h => h) (Or.inl ⟨by rfl, ?_⟩) ?_ ?_
  rotate_left
  · intro w'
    go_simp
    with_reducible rfl
  rotate_left
  · simp only [Act.put, List.setIfInBounds_toArray, List.set_cons_zero, List.set_cons_succ, i64_w, i32_w]
    rfl
  refine done_ (by kernel_rfl) ?_
  clear hHeld
  have x0 := (blk_cell I15.out.k5 0).trans rfl
  have x1 := (blk_cell I15.out.k5 1).trans rfl
  have x2 := (blk_cell I15.out.k5 2).trans rfl
  have x3 := (blk_cell I15.out.k5 3).trans rfl
  have x4 := (blk_cell I15.out.k5 4).trans rfl
  have p0 := (blk_cell I15.out.k2 0).trans rfl
  have p1 := (blk_cell I15.out.k2 1).trans rfl
  have p2 := (blk_cell I15.out.k2 2).trans rfl
  have p3 := (blk_cell I15.out.k2 3).trans rfl
  have p4 := (blk_cell I15.out.k2 4).trans rfl
  go_wp2_with (first
    | (go_at_call 18; refine (kept_calls u nn g2 d2 A1 c1 m _ w.heap.size I16.out.y (Kd.C_below H1.out.1 I16.out.below) H1.out.2 (Laid1.up HM.out I16.out.below) HS.out.2).mono ?_; rintro e w17 ⟨rfl, hb⟩; have I17 := Aside0.mk (I16.out.up hb); clear hb y0 y1 y2 y3 y4 q0 q1 q2 q3 q4)
    | (go_at_call 18; refine (kept_calls t nm g1 d1 A0 c0 l _ w.heap.size I15.out.x (Kd.C_below H0.out.1 I15.out.below) H0.out.2 (Laid1.up HM.out I15.out.below) HS.out.1).mono ?_; rintro e w16 ⟨rfl, hb⟩; have I16 := Aside0.mk (I15.out.up hb); clear hb x0 x1 x2 x3 x4 p0 p1 p2 p3 p4; have y0 := (blk_cell I16.out.k6 0).trans rfl; have y1 := (blk_cell I16.out.k6 1).trans rfl; have y2 := (blk_cell I16.out.k6 2).trans rfl; have y3 := (blk_cell I16.out.k6 3).trans rfl; have y4 := (blk_cell I16.out.k6 4).trans rfl; have q0 := (blk_cell I16.out.k3 0).trans rfl; have q1 := (blk_cell I16.out.k3 1).trans rfl; have q2 := (blk_cell I16.out.k3 2).trans rfl; have q3 := (blk_cell I16.out.k3 3).trans rfl; have q4 := (blk_cell I16.out.k3 4).trans rfl)
    | (go_at_call 19; refine (hearsaylaw02_first.calls true _ first_f).mono ?_; rintro e w18 ⟨rfl, hb⟩; have I18 := Aside0.mk (I17.out.up hb); clear hb)
    | go_in)
  go_ret
  exact ⟨rfl, I18.out.below⟩
end Go.Proofs.YtnomgmlfagiffaaDoor.T
