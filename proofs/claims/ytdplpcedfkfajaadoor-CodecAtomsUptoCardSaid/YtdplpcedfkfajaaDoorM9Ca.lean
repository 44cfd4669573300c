/- GDAtom; GDEnd; GDReadAtom; PureBe; PureBf; GCAtoms: texts of this claim, laid together. -/
import Derived.Test.YtdplpcedfkfajaaDoorM8Ca
import Derived.Test.YtdplpcedfkfajaaDoorM7Ca
import Derived.Test.YtdplpcedfkfajaaDoorM4Ca
import Derived.Test.YtdplpcedfkfajaaDoorWLast
import Derived.Test.YtdplpcedfkfajaaDoorM6Ca
import Derived.Test.YtdplpcedfkfajaaDoorM0Ca
/- The walk of the document's reader of an atom. -/
set_option linter.unusedVariables false
set_option linter.unusedSimpArgs false
namespace Go.Proofs.YtdplpcedfkfajaaDoor.T
open Go.RowKit Go.Proofs.YtdplpcedfkfajaaDoorW.PrintWords Go.Proofs.YtdplpcedfkfajaaDoorW.PrintLast
theorem RS.grow {w0 w W W' : World} {rb : Nat} {B : List Int} {s : Left} {row : Option Nat} (h : RS w0 w W rb B s) (hg : W.grownBy W' row) (hn : ∀ k, row = some k → w.heap.size ≤ k) : RS w0 w W' rb B s := by
  obtain ⟨A, c, a, e, hk, hc, hr, hx⟩ := h.st.ex
  have hl := h.lt
  have ha := h.st.at_
  have hne : some rb ≠ row := fun he => by have := hn rb he.symm; omega
  have h0 : w0.heap.size ≤ w.heap.size := Nat.le_trans h.st.at_ (Nat.le_of_lt hl)
  refine ⟨⟨⟨A, c, a, e, blk_grown hk hg hne, hc, hr, hx⟩, h.st.below.grown hg h.st.below.size (fun k e => Nat.le_trans h0 (hn k e)), h.st.at_⟩, h.keep.trans (KeepBut.of_grown hg rb) ?_, hl⟩
  cases row with
  | none => exact .inl rfl
  | some b => exact .inr ⟨b, rfl, hn b rfl⟩
theorem RS.drew {w0 w W : World} {rb : Nat} {B : List Int} {s : Left} (h : RS w0 w W rb B s) : RS w0 w W.drew rb B s := by
  obtain ⟨A, c, a, e, hk, hc, hr, hx⟩ := h.st.ex
  exact ⟨⟨⟨A, c, a, e, blk_drew hk, hc, hr, hx⟩, below_drew h.st.below, h.st.at_⟩, h.keep, h.lt⟩
/-- The terms that are still to come behind l. -/
def More (s0 : Left) (n : Nat) (m : Nat) (l : List Tm) (s : Left) : Prop := ∀ l2 s2, Left.after (s.read (manyR (termR 14 0) m)) l2 s2 → Left.after (s0.read (manyR (termR 14 0) n)) (l ++ l2) s2
theorem More.start (s0 : Left) (n : Nat) : More s0 n n [] s0 := fun l2 s2 h => h
theorem More.step {s0 s s1 : Left} {n m : Nat} {l : List Tm} {x : Tm} (h : More s0 n (m + 1) l s) (hx : Left.after (s.read (termR 14 0)) x s1) : More s0 n m (l ++ [x]) s1 := fun l2 s2 h2 => by
  have := h (x :: l2) s2 (after_then hx (after_then h2 after_give))
  simpa using this
theorem More.end_ {s0 s : Left} {n : Nat} {l : List Tm} (h : More s0 n 0 l s) : Left.after (s0.read (manyR (termR 14 0) n)) l s := by
  have := h [] s after_give
  simpa using this
theorem More.bad {s0 : Left} {n m : Nat} {l : List Tm} {d : Int} (h : More s0 n m l (.error d)) : Left.after (s0.read (manyR (termR 14 0) n)) l (.error d) := by
  have := h [] (.error d) rfl
  simpa using this
/-- What a round of the loop over the arguments leaves. -/
theorem DRound {w0 w w8 w9 w10 : World} {rb b2 b3 : Nat} {B : List Int} {s9 : Left} {row : Option Nat} {u2 u3 : Array Value} {v v1 : Value} {l : List Tm} (hv : v1 = v) (H8 : w.heap.size ≤ w8.heap.size) (H9 : RS w0 w w9 rb B s9) (HS : w8.heap.size ≤ w9.heap.size) (HG : w9.grownBy w10 row) (hown : ∀ k, row = some k → w8.heap.size ≤ k)
    (G3 : w.heap.size ≤ b3) (L3 : b3 < w8.heap.size) (N3 : b2 ≠ b3) (C3 : w10.heap[b3]? = some (.cells u3 26 (0, 0))) (C2 : w10.heap[b2]? = some (.cells u2 26 (0, 0))) (HL : ValL w8 l w10 v) :
    RS w0 w (w10.setCell ⟨b3, 4, none⟩ v1) rb B s9 ∧ w8.heap.size ≤ (w10.setCell ⟨b3, 4, none⟩ v1).heap.size ∧ (w10.setCell ⟨b3, 4, none⟩ v1).heap[b3]? = some (.cells (u3.setIfInBounds 4 v) 26 (0, 0)) ∧ (w10.setCell ⟨b3, 4, none⟩ v1).heap[b2]? = some (.cells u2 26 (0, 0)) ∧ ValL w8 l (w10.setCell ⟨b3, 4, none⟩ v1) v := by
  subst hv
  have H10 := H9.grow HG (fun k hk => Nat.le_trans H8 (hown k hk))
  have H11 := H10.set G3 4 v1
  exact ⟨H11, by have := (KeepBut.set_ (KeepBut.refl w10 b3 none) 4 v1).1; have := HG.size; omega, blk_set C3 4 v1, far1 C2 N3, HL.far L3 4 v1⟩
/-- A value of the document's reader: what was read of an atom. -/
abbrev ValD (w : World) := ValA w
set_option maxHeartbeats 16000000 in
set_option maxRecDepth 100000 in
theorem atom_s (w0 w : World) (rb : Nat) (B : List Int) (s : Left) (hby : isBytes B) (h : Sst w0 w rb B s) :
    Calls Tryd.prog 33 #[.pointer (some ⟨rb, 0, none⟩)] w (Gets w0 w rb B (s.read atomR) (ValD w)) := by
  have hu23 := Tryd.underlying23
  have hu26 := Tryd.underlying26
  have HS := Aside0.mk (RS.start h)
  clear h
  go_enter Tryd.func33, Tryd.ntmps33
  go_wp2_with (first
    | ((with_reducible refine gate_dst (N := 2) rfl ?_); refine box_event ?hg (N := 2) ?hd (cs := #[.int .i64 0, .int .i64 0, .string (⟨#[]⟩ : ByteArray), .string (⟨#[]⟩ : ByteArray), .slice none 0 0]) (t := 26) ?hr ?_; (case hd => rfl); (case hg => rfl); (case hr => first | (go_simp; done) | (go_simp; rfl)); intro b2 hb2 wb2 hbox hb; have H1 := Aside0.mk (HS.out.up hb); have B2 := Aside0.mk hbox; have G2 := Aside0.mk (show w.heap.size ≤ b2 by have := (HS.out.keep).1; omega); clear hb2 hbox hb; have q20 := (blk_cell B2.out 0).trans rfl; have z20 := blk_frozen B2.out 0; have q21 := (blk_cell B2.out 1).trans rfl; have z21 := blk_frozen B2.out 1; have q22 := (blk_cell B2.out 2).trans rfl; have z22 := blk_frozen B2.out 2; have q23 := (blk_cell B2.out 3).trans rfl; have z23 := blk_frozen B2.out 3; have q24 := (blk_cell B2.out 4).trans rfl; have z24 := blk_frozen B2.out 4)
    | (go_at_call 73; (with_reducible refine (small_s w0 _ rb B s1 1 32 hby (H3.out.set5 G3.out).st).mono ?_); rintro e w4 hr; obtain ⟨m, v, s2, rfl, ⟨rfl, x0, x1⟩, hs, ha⟩ := hr.ex; have HA2 := Aside0.mk ha; replace B2 := Aside0.mk ((H3.out.set5 G3.out).blk (far5 B2.out N3.out) G2.out hr.keep); replace B3 := Aside0.mk ((H3.out.set5 G3.out).blk (blk5 B3.out) G3.out hr.keep); have H4 := Aside0.mk ((H3.out.set5 G3.out).call hs hr.keep); obtain ⟨m, rfl⟩ := Int.eq_ofNat_of_zero_le x0; have HM := Aside0.mk (show m ≤ 4611686018427387904 by omega); clear hr ha hs x0 x1; clear q20 z20 q21 z21 q22 z22 q23 z23 q24 z24 q30 z30 q31 z31 q32 z32 q33 z33 q34 z34; have q20 := (blk_cell B2.out 0).trans rfl; have z20 := blk_frozen B2.out 0; have q21 := (blk_cell B2.out 1).trans rfl; have z21 := blk_frozen B2.out 1; have q22 := (blk_cell B2.out 2).trans rfl; have z22 := blk_frozen B2.out 2; have q23 := (blk_cell B2.out 3).trans rfl; have z23 := blk_frozen B2.out 3; have q24 := (blk_cell B2.out 4).trans rfl; have z24 := blk_frozen B2.out 4; have q30 := (blk_cell B3.out 0).trans rfl; have z30 := blk_frozen B3.out 0; have q31 := (blk_cell B3.out 1).trans rfl; have z31 := blk_frozen B3.out 1; have q32 := (blk_cell B3.out 2).trans rfl; have z32 := blk_frozen B3.out 2; have q33 := (blk_cell B3.out 3).trans rfl; have z33 := blk_frozen B3.out 3; have q34 := (blk_cell B3.out 4).trans rfl; have z34 := blk_frozen B3.out 4)
    | (go_at_call 72; (with_reducible refine (term_s13 w0 _ rb B s hby H1.out.st).mono ?_); rintro e w2 hr; obtain ⟨t, v, s1, rfl, rfl, hs, ha⟩ := hr.ex; have HA1 := Aside0.mk ha; replace B2 := Aside0.mk (H1.out.blk B2.out G2.out hr.keep); have H2 := Aside0.mk (H1.out.call hs hr.keep); clear hr ha hs; clear q20 z20 q21 z21 q22 z22 q23 z23 q24 z24; have q20 := (blk_cell B2.out 0).trans rfl; have z20 := blk_frozen B2.out 0; have q21 := (blk_cell B2.out 1).trans rfl; have z21 := blk_frozen B2.out 1; have q22 := (blk_cell B2.out 2).trans rfl; have z22 := blk_frozen B2.out 2; have q23 := (blk_cell B2.out 3).trans rfl; have z23 := blk_frozen B2.out 3; have q24 := (blk_cell B2.out 4).trans rfl; have z24 := blk_frozen B2.out 4)
    | ((with_reducible refine gate_dst (N := 3) rfl ?_); refine box_event ?hg (N := 3) ?hd (cs := #[.int .i64 0, .int .i64 0, .string (⟨#[]⟩ : ByteArray), .string (⟨#[]⟩ : ByteArray), .slice none 0 0]) (t := 26) ?hr ?_; (case hd => rfl); (case hg => rfl); (case hr => first | (go_simp; done) | (go_simp; rfl)); intro b3 hb3 wb3 hbox hb; have H3 := Aside0.mk (H2.out.up hb); have B3 := Aside0.mk hbox; have G3 := Aside0.mk (show w.heap.size ≤ b3 by have := (H2.out.keep).1; omega); have N3 := Aside0.mk (show b2 ≠ b3 by have := blk_lt B2.out; omega); replace B2 := Aside0.mk (blk_below B2.out hb); have hne1 := N3.out; have hne2 := Ne.symm N3.out; clear hb3 hbox hb; have q30 := (blk_cell B3.out 0).trans rfl; have z30 := blk_frozen B3.out 0; have q31 := (blk_cell B3.out 1).trans rfl; have z31 := blk_frozen B3.out 1; have q32 := (blk_cell B3.out 2).trans rfl; have z32 := blk_frozen B3.out 2; have q33 := (blk_cell B3.out 3).trans rfl; have z33 := blk_frozen B3.out 3; have q34 := (blk_cell B3.out 4).trans rfl; have z34 := blk_frozen B3.out 4))
  refine (take_s w0 _ rb B s2 m HM.out H4.out.st).mono ?_
  rintro e w5 hr
  obtain ⟨b, v, s3, rfl, ⟨A, c, rfl, hA, hl, hm⟩, hs, ha⟩ := hr.ex
  have HA3 := Aside0.mk ha
  replace B2 := Aside0.mk (H4.out.blk B2.out G2.out hr.keep); replace B3 := Aside0.mk (H4.out.blk B3.out G3.out hr.keep); have H5 := Aside0.mk (H4.out.call hs hr.keep)
  have hstr := string_of_reads (P := Tryd.prog) (src := 27) (dst := 9) (c := c) Tryd.underlying27 Tryd.underlying5 Tryd.underlying9 (hA.below hs.below)
  clear hr ha hs hA hl hm q20 z20 q21 z21 q22 z22 q23 z23 q24 z24 q30 z30 q31 z31 q32 z32 q33 z33 q34 z34
  have q20 := (blk_cell B2.out 0).trans rfl; have z20 := blk_frozen B2.out 0; have q21 := (blk_cell B2.out 1).trans rfl; have z21 := blk_frozen B2.out 1; have q22 := (blk_cell B2.out 2).trans rfl; have z22 := blk_frozen B2.out 2; have q23 := (blk_cell B2.out 3).trans rfl; have z23 := blk_frozen B2.out 3; have q24 := (blk_cell B2.out 4).trans rfl; have z24 := blk_frozen B2.out 4
  have q30 := (blk_cell B3.out 0).trans rfl; have z30 := blk_frozen B3.out 0; have q31 := (blk_cell B3.out 1).trans rfl; have z31 := blk_frozen B3.out 1; have q32 := (blk_cell B3.out 2).trans rfl; have z32 := blk_frozen B3.out 2; have q33 := (blk_cell B3.out 3).trans rfl; have z33 := blk_frozen B3.out 3; have q34 := (blk_cell B3.out 4).trans rfl; have z34 := blk_frozen B3.out 4
  cases s3 with
  | error d =>
    obtain ⟨p2, hd⟩ := (H5.out.set G3.out 3 (.string (strOf b))).st.err_no
    have d0 : (d == 0) = false := by simpa using hd
    clear hd
    go_wp2_with (first
      | (go_at_call 73; (with_reducible refine (small_s w0 _ rb B (.error d) 0 8 hby (H5.out.set G3.out 3 (.string (strOf b))).st).mono ?_); rintro e w8 hr; obtain ⟨k, v, s5, rfl, ⟨rfl, x0, x1⟩, hs, ha⟩ := hr.ex; have HA5 := Aside0.mk ha; replace B2 := Aside0.mk ((H5.out.set G3.out 3 (.string (strOf b))).blk (far1 B2.out N3.out) G2.out hr.keep); replace B3 := Aside0.mk ((H5.out.set G3.out 3 (.string (strOf b))).blk (blk_set B3.out 3 (.string (strOf b))) G3.out hr.keep); have H8 := Aside0.mk ((H5.out.set G3.out 3 (.string (strOf b))).call hs hr.keep); obtain ⟨k, rfl⟩ := Int.eq_ofNat_of_zero_le x0; have HK := Aside0.mk (show k ≤ 255 by omega); clear hr ha hs x0 x1; clear q20 z20 q21 z21 q22 z22 q23 z23 q24 z24 q30 z30 q31 z31 q32 z32 q33 z33 q34 z34; have q20 := (blk_cell B2.out 0).trans rfl; have z20 := blk_frozen B2.out 0; have q21 := (blk_cell B2.out 1).trans rfl; have z21 := blk_frozen B2.out 1; have q22 := (blk_cell B2.out 2).trans rfl; have z22 := blk_frozen B2.out 2; have q23 := (blk_cell B2.out 3).trans rfl; have z23 := blk_frozen B2.out 3; have q24 := (blk_cell B2.out 4).trans rfl; have z24 := blk_frozen B2.out 4; have q30 := (blk_cell B3.out 0).trans rfl; have z30 := blk_frozen B3.out 0; have q31 := (blk_cell B3.out 1).trans rfl; have z31 := blk_frozen B3.out 1; have q32 := (blk_cell B3.out 2).trans rfl; have z32 := blk_frozen B3.out 2; have q33 := (blk_cell B3.out 3).trans rfl; have z33 := blk_frozen B3.out 3; have q34 := (blk_cell B3.out 4).trans rfl; have z34 := blk_frozen B3.out 4))
    have LB2 := Aside0.mk (blk_lt B2.out)
    have LB3 := Aside0.mk (blk_lt B3.out)
    have HAM : Aside0 (∀ x s', Left.after (s5.read (manyR (termR 14 0) k)) x s' → Left.after (s.read atomR) (t, strOf b, x) s') := ⟨fun x s' hx => after_then HA1.out (after_then HA2.out (after_then (by rw [Int.toNat_natCast]; exact HA3.out) (after_then (show Left.after (Left.read (.error d) (needR (nameOk (strOf b)) 63)) () (.error d) from rfl) (after_then HA5.out (after_then (by rw [Int.toNat_natCast]; exact hx) after_give)))))⟩
    clear q20 z20 q21 z21 q22 z22 q23 z23 q24 z24 q30 z30 q31 z31 q32 z32 q33 z33 q34 z34
    go_loopg [6] k (fun gg s6 wr => ∃ (i : Int) (l : List Tm) (s' : Left) (Al : Option Addr) (cl : Nat), Aside0 (0 ≤ i ∧ i ≤ (k : Int) ∧ (k : Int) - i ≤ (gg : Int)) ∧ s6 = .int .i64 i ∧ Aside0 (RS w0 w wr rb B s' ∧ w8.heap.size ≤ wr.heap.size) ∧ Aside0 (wr.heap[b2]? = some (.cells #[.int .i64 0, .int .i64 0, .string (⟨#[]⟩ : ByteArray), .string (⟨#[]⟩ : ByteArray), .slice none 0 0] 26 (0, 0))) ∧ Aside0 (wr.heap[b3]? = some (.cells #[.int .i64 t.f0, .int .i64 t.f1, .string t.f2, .string (strOf b), .slice Al l.length cl] 26 (0, 0))) ∧ Aside0 (ValL w8 l wr (.slice Al l.length cl)) ∧ Aside0 (l.length = i.toNat) ∧ Aside0 (More s5 k (k - i.toNat) l s'))
    case atStart => exact ⟨0, [], s5, none, 0, ⟨by omega, by omega, by omega⟩, rfl, ⟨H8.out, Nat.le_refl _⟩, B2, B3, ⟨Kd.R_nil _ _ _ _ _⟩, ⟨rfl⟩, ⟨More.start _ _⟩⟩
    case round =>
      obtain ⟨i, l, s', Al, cl, HI, rfl, HW, C2, C3, HL, HLN, HMO⟩ := hrel
      have q24 := (blk_cell C2.out 4).trans rfl
      have q30 := (blk_cell C3.out 0).trans rfl
      have q31 := (blk_cell C3.out 1).trans rfl
      have q32 := (blk_cell C3.out 2).trans rfl
      have q33 := (blk_cell C3.out 3).trans rfl
      have q34 : wr.cell? ⟨b3, 4, none⟩ = some (.slice Al l.length cl) := (blk_cell C3.out 4).trans rfl
      have z34 := blk_frozen C3.out 4
      have q20 := (blk_cell C2.out 0).trans rfl
      have q21 := (blk_cell C2.out 1).trans rfl
      have q22 := (blk_cell C2.out 2).trans rfl
      have q23 := (blk_cell C2.out 3).trans rfl
      have z20 := blk_frozen C2.out 0
      have z21 := blk_frozen C2.out 1
      have z22 := blk_frozen C2.out 2
      have z23 := blk_frozen C2.out 3
      have z24 := blk_frozen C2.out 4
      by_cases hlt : i < (k : Int)
      · have hltb : decide (i < (k : Int)) = true := decide_eq_true hlt
        cases s' with
        | error d =>
          obtain ⟨p2, hd⟩ := HW.out.1.st.err_no
          have d0 : (d == 0) = false := by simpa using hd
          have HEND := Aside0.mk HMO.out.bad
          clear hd hlt
          go_wp2
          refine bodyPost_ret (results_cell_row rfl _ _ b2 26 #[.int .i64 t.f0, .int .i64 t.f1, .string t.f2, .string (strOf b), .slice Al l.length cl] (0, 0) _ rfl (blk5 C2.out) Tryd.underlying26 rfl (by kernel_rfl)) rfl ?_
          exact RS.gives (val := ValD w) (x := ((t, strOf b, l) : Tm × ByteArray × List Tm)) (HW.out.1.set5 G2.out) ⟨_, rfl, ((((((HL.out.far LB2.out 0 _).far LB2.out 1 _).far LB2.out 2 _).far LB2.out 3 _).far LB2.out 4 _).lower H8.out.keep.1)⟩ (HAM.out _ _ HEND.out)
        | ok rr =>
          have p2 := HW.out.1.st.err_ok
          have HPOS := Aside0.mk HI.out.1
          have HLT := Aside0.mk (show i.toNat < k by have := HI.out.1; omega)
          have hwr : wrap64 (i + 1) = i + 1 := by have := HK.out; have := HPOS.out; simp only [wrap64]; omega
          have HCL : Aside0 (∀ W, Sst w0 W rb B (.ok rr) → _) := ⟨fun W hW => term_s14 w0 W rb B (.ok rr) hby hW⟩
          clear hlt
          go_wp2
          have HWD : Aside0 (RS w0 w wr.drew rb B (.ok rr)) := ⟨HW.out.1.drew⟩
          have C2D := Aside0.mk (blk_drew C2.out)
          have C3D := Aside0.mk (blk_drew C3.out)
          have HLD := Aside0.mk (Kd.R_drew HL.out)
          have HSZ := Aside0.mk HW.out.2
          have hHD : wr.drew.cell? ⟨b3, 4, none⟩ = some (.slice Al l.length cl) := (blk_cell C3D.out 4).trans rfl
          refine start_ (n := 8) (S := fun w' => w'.cell? ⟨b3, 4, none⟩ = some (.slice Al l.length cl)) (ds := [7]) #[false, false, false, false, false, false, false, false] (by kernel_rfl) rfl rfl hHD (fun hHeld => ?_)
          refine pure_ (i := 0) (N := some 45) (v := ?_) (a' := ?_) #[true, false, false, false, false, false, false, false] rfl rfl (by kernel_rfl) (fun _ _ _ h => h) (Or.inl ⟨by rfl, ?_⟩) ?_ ?_
          rotate_left
          · intro w'
            go_simp
            with_reducible rfl
          rotate_left
          · simp only [Act.put, List.setIfInBounds_toArray, List.set_cons_zero, List.set_cons_succ, i64_w, i32_w]
            rfl
          refine pure_ (i := 2) (N := some 47) (v := ?_) (a' := ?_) #[true, false, true, false, false, false, false, false] rfl rfl (by kernel_rfl) (fun _ _ _ h => h) (Or.inl ⟨by rfl, ?_⟩) ?_ ?_
          rotate_left
          · intro w'
            go_simp
            with_reducible rfl
          rotate_left
          · simp only [Act.put, List.setIfInBounds_toArray, List.set_cons_zero, List.set_cons_succ, i64_w, i32_w]
            rfl
          refine take_ (i := 1) (N := some 46) (v := ?_) (a' := ?_) #[true, true, true, false, false, false, false, false] rfl rfl (by kernel_rfl) (fun _ _ _ h => h) (Or.inl ⟨by rfl, ?_⟩) hHeld ?_ ?_
          rotate_left
          · intro w' s0
            go_simp
            with_reducible rfl
          rotate_left
          · simp only [Act.put, List.setIfInBounds_toArray, List.set_cons_zero, List.set_cons_succ, i64_w, i32_w]
            rfl
          refine one_ (i := 3) (N := some 48) #[true, true, true, true, false, false, false, false] rfl rfl (by kernel_rfl) (by decide) (fun K hK => ?_)
          refine goes_ Tryd.func72 (by kernel_rfl) rfl #[.pointer (some ⟨rb, 0, none⟩), .bool false, .bool true, .bool true] (by rfl) rfl rfl (by simp only [List.map_toArray, List.map_cons, List.map_nil]; rfl) ?_
          with_reducible refine (HCL.out _ HWD.out.st).mono ?_
          rintro e w9 hr9
          obtain ⟨x, v9, s9, rfl, rfl, hs9, ha9⟩ := hr9.ex
          refine ⟨_, rfl, ?_⟩
          have C3P := Aside0.mk (HWD.out.blk C3D.out G3.out hr9.keep)
          have C2P := Aside0.mk (HWD.out.blk C2D.out G2.out hr9.keep)
          have H9 := Aside0.mk (HWD.out.call hs9 hr9.keep)
          have HSZ9 := Aside0.mk (show w8.heap.size ≤ w9.heap.size from Nat.le_trans HSZ.out hr9.keep.1)
          have HA9 := Aside0.mk ha9
          have HL9 := Aside0.mk (Kd.R_keep HLD.out hr9.keep (fun k hk' => by have := H8.out.lt; have := H8.out.keep.1; omega))
          clear hr9 hs9 ha9
          refine hK.out _ _ ((blk_cell C3P.out 4).trans rfl) (fun hHeld => ?_)
          clear hK K
          refine norm_ (a' := ?_) ?_ ?_
          rotate_left
          · show Act.put _ (some 48) _ = _
            simp only [Act.put, List.setIfInBounds_toArray, List.set_cons_zero, List.set_cons_succ, i64_w, i32_w]
            rfl
          refine one_ (i := 4) (N := some 49) #[true, true, true, true, true, false, false, false] rfl rfl (by kernel_rfl) (by decide) (fun K hK => ?_)
          refine value_ (w1 := ?_) (v := ?_) (by rfl) rfl ?_ ?_
          rotate_left 2
          · go_simp
            constructor
            · rfl
            · rfl
          refine hK.out _ _ ((blk_cell (blk_alloc C3P.out _) 4).trans rfl) (fun hHeld => ?_)
          clear hK K
          refine norm_ (a' := ?_) ?_ ?_
          rotate_left
          · show Act.put _ (some 49) _ = _
            simp only [Act.put, List.setIfInBounds_toArray, List.set_cons_zero, List.set_cons_succ, i64_w, i32_w]
            rfl
          refine one_ (i := 5) (N := some 50) #[true, true, true, true, true, true, false, false] rfl rfl (by kernel_rfl) (by decide) (fun K hK => ?_)
          refine Kd.R_append_step k23 (w0 := w9) w8.heap.size (by rfl) (.tmp 46) (.tmp 49) 24 23 (.agg #[(.int .i64 0), (.int .i64 0), (.string ⟨#[]⟩)]) 32 rfl Tryd.underlying24 infoTm rfl (by decide) (by omega) (.slice Al l.length cl) l x [.int .i64 x.f0, .int .i64 x.f1, .string x.f2] (fun k => w8.heap.size ≤ k) (fun _ => False) rfl rfl (k23_mkM _ _ _ x) (fun _ hk => hk.elim) (fun k hk => Nat.le_trans HSZ9.out hk) HL9.out (Below.refl _ _) HSZ9.out (by have := HLN.out; have := HLT.out; have := HK.out; omega) ?_
          intro v10 w10 ho hb hg hat
          obtain ⟨A10, c10, rfl⟩ := Kd.R_slice ho
          have HLP := Aside0.mk ho
          have hown := HL9.out.1
          have C3Q := Aside0.mk (blk_grown C3P.out hg (Kd.R_ne HL9.out C3P.out (by decide)))
          have C2Q := Aside0.mk (blk_grown C2P.out hg (Kd.R_ne HL9.out C2P.out (by decide)))
          have HGW := Aside0.mk hg
          clear ho hb hg hat
          refine hK.out _ _ ((blk_cell C3Q.out 4).trans rfl) (fun hHeld => ?_)
          clear hK K
          refine norm_ (a' := ?_) ?_ ?_
          rotate_left
          · show Act.put _ (some 50) _ = _
            simp only [Act.put, List.setIfInBounds_toArray, List.set_cons_zero, List.set_cons_succ, i64_w, i32_w]
            rfl
          refine pure_ (i := 6) (N := some 51) (v := ?_) (a' := ?_) #[true, true, true, true, true, true, true, false] rfl rfl (by kernel_rfl) (fun _ _ _ h => h) (Or.inl ⟨by rfl, ?_⟩) ?_ ?_
          rotate_left
          · intro w'
            go_simp
            with_reducible rfl
          rotate_left
          · simp only [Act.put, List.setIfInBounds_toArray, List.set_cons_zero, List.set_cons_succ, i64_w, i32_w]
            rfl
          refine last_ (i := 7) (N := none) #[true, true, true, true, true, true, true, true] rfl rfl (by kernel_rfl) (by decide) (fun K hK => ?_)
          have q34p : w10.cell? ⟨b3, 4, none⟩ = some (.slice Al l.length cl) := (blk_cell C3Q.out 4).trans rfl
          have z34p := blk_frozen C3Q.out 4
          refine skip_ (w1 := ?_) (by rfl) rfl ?_ ?_
          rotate_left
          · go_simp
            rfl
          refine hK.out _ _ ?_
          clear hK K
          refine done_ (by kernel_rfl) ?_
          all_goals
            have HDR := Aside0.mk (DRound (v1 := .slice A10 (l.length + 1) c10) (by simp) H8.out.keep.1 H9.out HSZ9.out HGW.out hown G3.out LB3.out N3.out C3Q.out C2Q.out HLP.out)
            have HM2 := Aside0.mk (More.step (m := k - (i.toNat + 1)) (by have h0 := HMO.out; have := HLT.out; rwa [show k - i.toNat = k - (i.toNat + 1) + 1 by omega] at h0) HA9.out)
            clear q34p z34p hown hHD q24 q30 q31 q32 q33 q34 z34 p2 q20 q21 q22 q23 z20 z21 z22 z23 z24
            go_wp2
            go_roundg (k - (i.toNat + 1))
            case measure => have := HI.out; have := HLT.out; omega
            case rel =>
              have e : (i + 1).toNat = i.toNat + 1 := by have := HPOS.out; omega
              have el : (l ++ [x]).length = l.length + 1 := by simp
              refine ⟨i + 1, l ++ [x], s9, A10, c10, ⟨by have := HPOS.out; omega, by have := HLT.out; omega, by have := HLT.out; have := HPOS.out; omega⟩, by first | rfl | (simp [hwr]; done) | go_num, ⟨HDR.out.1, HDR.out.2.1⟩, ⟨HDR.out.2.2.2.1⟩, ⟨HDR.out.2.2.1⟩, ⟨HDR.out.2.2.2.2⟩, ⟨by rw [e, el, HLN.out]⟩, ⟨by rw [e]; exact HM2.out⟩⟩
      · have hltb : decide (i < (k : Int)) = false := decide_eq_false hlt
        have HEND := Aside0.mk (show Left.after (s5.read (manyR (termR 14 0) k)) l s' from More.end_ (by have h0 := HMO.out; have := HI.out.1; rwa [show k - i.toNat = 0 by omega] at h0))
        clear hlt
        go_wp2
        refine bodyPost_ret (results_cell_row rfl _ _ b2 26 #[.int .i64 t.f0, .int .i64 t.f1, .string t.f2, .string (strOf b), .slice Al l.length cl] (0, 0) _ rfl (blk5 C2.out) Tryd.underlying26 rfl (by kernel_rfl)) rfl ?_
        exact RS.gives (val := ValD w) (x := ((t, strOf b, l) : Tm × ByteArray × List Tm)) (HW.out.1.set5 G2.out) ⟨_, rfl, ((((((HL.out.far LB2.out 0 _).far LB2.out 1 _).far LB2.out 2 _).far LB2.out 3 _).far LB2.out 4 _).lower H8.out.keep.1)⟩ (HAM.out _ _ HEND.out)
  | ok r3 =>
    have p2 := (H5.out.set G3.out 3 (.string (strOf b))).st.err_ok
    obtain ⟨CK, hCK⟩ : ∃ x, checkA ⟨0, 0, ⟨#[]⟩⟩ (strOf b) [] = x := ⟨_, rfl⟩
    have HCK := Aside0.mk (show hearsayref02_CheckAtom.f 40 0 0 (⟨#[]⟩ : ByteArray) (strOf b) [] = some CK by rw [← hCK]; exact rcheckAtom_f ⟨0, 0, ⟨#[]⟩⟩ (strOf b) [] 40 (by omega))
    have HCKC := Aside0.mk (show ∀ W, Calls Tryd.prog 28 #[.agg #[.int .i64 0, .int .i64 0, .string (⟨#[]⟩ : ByteArray), .string (strOf b), .slice none 0 0]] W (fun e w' => e = .returned (.int .i64 CK) ∧ Below W.heap.size W w') from fun W => hearsayref02_CheckAtom.calls 40 0 0 (⟨#[]⟩ : ByteArray) (strOf b) none 0 [] CK W (Kd.C_nil _ _) (Nat.le_refl _) HCK.out)
    by_cases hck : CK = 0
    · subst hck
      have HYES := Aside0.mk (show nameOk (strOf b) = true by unfold nameOk; rw [hCK]; rfl)
      clear hCK
      go_wp2_with (first
        | (go_at_call 73; (with_reducible refine (small_s w0 _ rb B (.ok r3) 0 8 hby H6.out.st).mono ?_); rintro e w8 hr; obtain ⟨k, v, s5, rfl, ⟨rfl, x0, x1⟩, hs, ha⟩ := hr.ex; have HA5 := Aside0.mk ha; replace B2 := Aside0.mk (H6.out.blk B2.out G2.out hr.keep); replace B3 := Aside0.mk (H6.out.blk B3.out G3.out hr.keep); have H8 := Aside0.mk (H6.out.call hs hr.keep); obtain ⟨k, rfl⟩ := Int.eq_ofNat_of_zero_le x0; have HK := Aside0.mk (show k ≤ 255 by omega); clear hr ha hs x0 x1; clear q20 z20 q21 z21 q22 z22 q23 z23 q24 z24 q30 z30 q31 z31 q32 z32 q33 z33 q34 z34; have q20 := (blk_cell B2.out 0).trans rfl; have z20 := blk_frozen B2.out 0; have q21 := (blk_cell B2.out 1).trans rfl; have z21 := blk_frozen B2.out 1; have q22 := (blk_cell B2.out 2).trans rfl; have z22 := blk_frozen B2.out 2; have q23 := (blk_cell B2.out 3).trans rfl; have z23 := blk_frozen B2.out 3; have q24 := (blk_cell B2.out 4).trans rfl; have z24 := blk_frozen B2.out 4; have q30 := (blk_cell B3.out 0).trans rfl; have z30 := blk_frozen B3.out 0; have q31 := (blk_cell B3.out 1).trans rfl; have z31 := blk_frozen B3.out 1; have q32 := (blk_cell B3.out 2).trans rfl; have z32 := blk_frozen B3.out 2; have q33 := (blk_cell B3.out 3).trans rfl; have z33 := blk_frozen B3.out 3; have q34 := (blk_cell B3.out 4).trans rfl; have z34 := blk_frozen B3.out 4)
        | (go_at_call 28; (with_reducible refine (HCKC.out _).mono ?_); rintro e w6 ⟨rfl, hb⟩; replace B2 := Aside0.mk (blk_below (far1 (j := 3) (x := .string (strOf b)) B2.out N3.out) hb); replace B3 := Aside0.mk (blk_below (blk_set B3.out 3 (.string (strOf b))) hb); have H6 := Aside0.mk ((H5.out.set G3.out 3 (.string (strOf b))).up hb); have p2 := H6.out.st.err_ok; clear hb q20 z20 q21 z21 q22 z22 q23 z23 q24 z24 q30 z30 q31 z31 q32 z32 q33 z33 q34 z34; have q20 := (blk_cell B2.out 0).trans rfl; have z20 := blk_frozen B2.out 0; have q21 := (blk_cell B2.out 1).trans rfl; have z21 := blk_frozen B2.out 1; have q22 := (blk_cell B2.out 2).trans rfl; have z22 := blk_frozen B2.out 2; have q23 := (blk_cell B2.out 3).trans rfl; have z23 := blk_frozen B2.out 3; have q24 := (blk_cell B2.out 4).trans rfl; have z24 := blk_frozen B2.out 4; have q30 := (blk_cell B3.out 0).trans rfl; have z30 := blk_frozen B3.out 0; have q31 := (blk_cell B3.out 1).trans rfl; have z31 := blk_frozen B3.out 1; have q32 := (blk_cell B3.out 2).trans rfl; have z32 := blk_frozen B3.out 2; have q33 := (blk_cell B3.out 3).trans rfl; have z33 := blk_frozen B3.out 3; have q34 := (blk_cell B3.out 4).trans rfl; have z34 := blk_frozen B3.out 4))
      have LB2 := Aside0.mk (blk_lt B2.out)
      have LB3 := Aside0.mk (blk_lt B3.out)
      have HAM : Aside0 (∀ x s', Left.after (s5.read (manyR (termR 14 0) k)) x s' → Left.after (s.read atomR) (t, strOf b, x) s') := ⟨fun x s' hx => after_then HA1.out (after_then HA2.out (after_then (by rw [Int.toNat_natCast]; exact HA3.out) (after_then (after_need_true (s := .ok r3) HYES.out) (after_then HA5.out (after_then (by rw [Int.toNat_natCast]; exact hx) after_give)))))⟩
      clear q20 z20 q21 z21 q22 z22 q23 z23 q24 z24 q30 z30 q31 z31 q32 z32 q33 z33 q34 z34
      go_loopg [6] k (fun gg s6 wr => ∃ (i : Int) (l : List Tm) (s' : Left) (Al : Option Addr) (cl : Nat), Aside0 (0 ≤ i ∧ i ≤ (k : Int) ∧ (k : Int) - i ≤ (gg : Int)) ∧ s6 = .int .i64 i ∧ Aside0 (RS w0 w wr rb B s' ∧ w8.heap.size ≤ wr.heap.size) ∧ Aside0 (wr.heap[b2]? = some (.cells #[.int .i64 0, .int .i64 0, .string (⟨#[]⟩ : ByteArray), .string (⟨#[]⟩ : ByteArray), .slice none 0 0] 26 (0, 0))) ∧ Aside0 (wr.heap[b3]? = some (.cells #[.int .i64 t.f0, .int .i64 t.f1, .string t.f2, .string (strOf b), .slice Al l.length cl] 26 (0, 0))) ∧ Aside0 (ValL w8 l wr (.slice Al l.length cl)) ∧ Aside0 (l.length = i.toNat) ∧ Aside0 (More s5 k (k - i.toNat) l s'))
      case atStart => exact ⟨0, [], s5, none, 0, ⟨by omega, by omega, by omega⟩, rfl, ⟨H8.out, Nat.le_refl _⟩, B2, B3, ⟨Kd.R_nil _ _ _ _ _⟩, ⟨rfl⟩, ⟨More.start _ _⟩⟩
      case round =>
        obtain ⟨i, l, s', Al, cl, HI, rfl, HW, C2, C3, HL, HLN, HMO⟩ := hrel
        have q24 := (blk_cell C2.out 4).trans rfl
        have q30 := (blk_cell C3.out 0).trans rfl
        have q31 := (blk_cell C3.out 1).trans rfl
        have q32 := (blk_cell C3.out 2).trans rfl
        have q33 := (blk_cell C3.out 3).trans rfl
        have q34 : wr.cell? ⟨b3, 4, none⟩ = some (.slice Al l.length cl) := (blk_cell C3.out 4).trans rfl
        have z34 := blk_frozen C3.out 4
        have q20 := (blk_cell C2.out 0).trans rfl
        have q21 := (blk_cell C2.out 1).trans rfl
        have q22 := (blk_cell C2.out 2).trans rfl
        have q23 := (blk_cell C2.out 3).trans rfl
        have z20 := blk_frozen C2.out 0
        have z21 := blk_frozen C2.out 1
        have z22 := blk_frozen C2.out 2
        have z23 := blk_frozen C2.out 3
        have z24 := blk_frozen C2.out 4
        by_cases hlt : i < (k : Int)
        · have hltb : decide (i < (k : Int)) = true := decide_eq_true hlt
          cases s' with
          | error d =>
            obtain ⟨p2, hd⟩ := HW.out.1.st.err_no
            have d0 : (d == 0) = false := by simpa using hd
            have HEND := Aside0.mk HMO.out.bad
            clear hd hlt
            go_wp2
            refine bodyPost_ret (results_cell_row rfl _ _ b2 26 #[.int .i64 t.f0, .int .i64 t.f1, .string t.f2, .string (strOf b), .slice Al l.length cl] (0, 0) _ rfl (blk5 C2.out) Tryd.underlying26 rfl (by kernel_rfl)) rfl ?_
            exact RS.gives (val := ValD w) (x := ((t, strOf b, l) : Tm × ByteArray × List Tm)) (HW.out.1.set5 G2.out) ⟨_, rfl, ((((((HL.out.far LB2.out 0 _).far LB2.out 1 _).far LB2.out 2 _).far LB2.out 3 _).far LB2.out 4 _).lower H8.out.keep.1)⟩ (HAM.out _ _ HEND.out)
          | ok rr =>
            have p2 := HW.out.1.st.err_ok
            have HPOS := Aside0.mk HI.out.1
            have HLT := Aside0.mk (show i.toNat < k by have := HI.out.1; omega)
            have hwr : wrap64 (i + 1) = i + 1 := by have := HK.out; have := HPOS.out; simp only [wrap64]; omega
            have HCL : Aside0 (∀ W, Sst w0 W rb B (.ok rr) → _) := ⟨fun W hW => term_s14 w0 W rb B (.ok rr) hby hW⟩
            clear hlt
            go_wp2
            have HWD : Aside0 (RS w0 w wr.drew rb B (.ok rr)) := ⟨HW.out.1.drew⟩
            have C2D := Aside0.mk (blk_drew C2.out)
            have C3D := Aside0.mk (blk_drew C3.out)
            have HLD := Aside0.mk (Kd.R_drew HL.out)
            have HSZ := Aside0.mk HW.out.2
            have hHD : wr.drew.cell? ⟨b3, 4, none⟩ = some (.slice Al l.length cl) := (blk_cell C3D.out 4).trans rfl
            refine start_ (n := 8) (S := fun w' => w'.cell? ⟨b3, 4, none⟩ = some (.slice Al l.length cl)) (ds := [7]) #[false, false, false, false, false, false, false, false] (by kernel_rfl) rfl rfl hHD (fun hHeld => ?_)
            refine pure_ (i := 0) (N := some 45) (v := ?_) (a' := ?_) #[true, false, false, false, false, false, false, false] rfl rfl (by kernel_rfl) (fun _ _ _ h => h) (Or.inl ⟨by rfl, ?_⟩) ?_ ?_
            rotate_left
            · intro w'
              go_simp
              with_reducible rfl
            rotate_left
            · simp only [Act.put, List.setIfInBounds_toArray, List.set_cons_zero, List.set_cons_succ, i64_w, i32_w]
              rfl
            refine pure_ (i := 2) (N := some 47) (v := ?_) (a' := ?_) #[true, false, true, false, false, false, false, false] rfl rfl (by kernel_rfl) (fun _ _ _ h => h) (Or.inl ⟨by rfl, ?_⟩) ?_ ?_
            rotate_left
            · intro w'
              go_simp
              with_reducible rfl
            rotate_left
            · simp only [Act.put, List.setIfInBounds_toArray, List.set_cons_zero, List.set_cons_succ, i64_w, i32_w]
              rfl
            refine take_ (i := 1) (N := some 46) (v := ?_) (a' := ?_) #[true, true, true, false, false, false, false, false] rfl rfl (by kernel_rfl) (fun _ _ _ h => h) (Or.inl ⟨by rfl, ?_⟩) hHeld ?_ ?_
            rotate_left
            · intro w' s0
              go_simp
              with_reducible rfl
            rotate_left
            · simp only [Act.put, List.setIfInBounds_toArray, List.set_cons_zero, List.set_cons_succ, i64_w, i32_w]
              rfl
            refine one_ (i := 3) (N := some 48) #[true, true, true, true, false, false, false, false] rfl rfl (by kernel_rfl) (by decide) (fun K hK => ?_)
            refine goes_ Tryd.func72 (by kernel_rfl) rfl #[.pointer (some ⟨rb, 0, none⟩), .bool false, .bool true, .bool true] (by rfl) rfl rfl (by simp only [List.map_toArray, List.map_cons, List.map_nil]; rfl) ?_
            with_reducible refine (HCL.out _ HWD.out.st).mono ?_
            rintro e w9 hr9
            obtain ⟨x, v9, s9, rfl, rfl, hs9, ha9⟩ := hr9.ex
            refine ⟨_, rfl, ?_⟩
            have C3P := Aside0.mk (HWD.out.blk C3D.out G3.out hr9.keep)
            have C2P := Aside0.mk (HWD.out.blk C2D.out G2.out hr9.keep)
            have H9 := Aside0.mk (HWD.out.call hs9 hr9.keep)
            have HSZ9 := Aside0.mk (show w8.heap.size ≤ w9.heap.size from Nat.le_trans HSZ.out hr9.keep.1)
            have HA9 := Aside0.mk ha9
            have HL9 := Aside0.mk (Kd.R_keep HLD.out hr9.keep (fun k hk' => by have := H8.out.lt; have := H8.out.keep.1; omega))
            clear hr9 hs9 ha9
            refine hK.out _ _ ((blk_cell C3P.out 4).trans rfl) (fun hHeld => ?_)
            clear hK K
            refine norm_ (a' := ?_) ?_ ?_
            rotate_left
            · show Act.put _ (some 48) _ = _
              simp only [Act.put, List.setIfInBounds_toArray, List.set_cons_zero, List.set_cons_succ, i64_w, i32_w]
              rfl
            refine one_ (i := 4) (N := some 49) #[true, true, true, true, true, false, false, false] rfl rfl (by kernel_rfl) (by decide) (fun K hK => ?_)
            refine value_ (w1 := ?_) (v := ?_) (by rfl) rfl ?_ ?_
            rotate_left 2
            · go_simp
              constructor
              · rfl
              · rfl
            refine hK.out _ _ ((blk_cell (blk_alloc C3P.out _) 4).trans rfl) (fun hHeld => ?_)
            clear hK K
            refine norm_ (a' := ?_) ?_ ?_
            rotate_left
            · show Act.put _ (some 49) _ = _
              simp only [Act.put, List.setIfInBounds_toArray, List.set_cons_zero, List.set_cons_succ, i64_w, i32_w]
              rfl
            refine one_ (i := 5) (N := some 50) #[true, true, true, true, true, true, false, false] rfl rfl (by kernel_rfl) (by decide) (fun K hK => ?_)
            refine Kd.R_append_step k23 (w0 := w9) w8.heap.size (by rfl) (.tmp 46) (.tmp 49) 24 23 (.agg #[(.int .i64 0), (.int .i64 0), (.string ⟨#[]⟩)]) 32 rfl Tryd.underlying24 infoTm rfl (by decide) (by omega) (.slice Al l.length cl) l x [.int .i64 x.f0, .int .i64 x.f1, .string x.f2] (fun k => w8.heap.size ≤ k) (fun _ => False) rfl rfl (k23_mkM _ _ _ x) (fun _ hk => hk.elim) (fun k hk => Nat.le_trans HSZ9.out hk) HL9.out (Below.refl _ _) HSZ9.out (by have := HLN.out; have := HLT.out; have := HK.out; omega) ?_
            intro v10 w10 ho hb hg hat
            obtain ⟨A10, c10, rfl⟩ := Kd.R_slice ho
            have HLP := Aside0.mk ho
            have hown := HL9.out.1
            have C3Q := Aside0.mk (blk_grown C3P.out hg (Kd.R_ne HL9.out C3P.out (by decide)))
            have C2Q := Aside0.mk (blk_grown C2P.out hg (Kd.R_ne HL9.out C2P.out (by decide)))
            have HGW := Aside0.mk hg
            clear ho hb hg hat
            refine hK.out _ _ ((blk_cell C3Q.out 4).trans rfl) (fun hHeld => ?_)
            clear hK K
            refine norm_ (a' := ?_) ?_ ?_
            rotate_left
            · show Act.put _ (some 50) _ = _
              simp only [Act.put, List.setIfInBounds_toArray, List.set_cons_zero, List.set_cons_succ, i64_w, i32_w]
              rfl
            refine pure_ (i := 6) (N := some 51) (v := ?_) (a' := ?_) #[true, true, true, true, true, true, true, false] rfl rfl (by kernel_rfl) (fun _ _ _ h => h) (Or.inl ⟨by rfl, ?_⟩) ?_ ?_
            rotate_left
            · intro w'
              go_simp
              with_reducible rfl
            rotate_left
            · simp only [Act.put, List.setIfInBounds_toArray, List.set_cons_zero, List.set_cons_succ, i64_w, i32_w]
              rfl
            refine last_ (i := 7) (N := none) #[true, true, true, true, true, true, true, true] rfl rfl (by kernel_rfl) (by decide) (fun K hK => ?_)
            have q34p : w10.cell? ⟨b3, 4, none⟩ = some (.slice Al l.length cl) := (blk_cell C3Q.out 4).trans rfl
            have z34p := blk_frozen C3Q.out 4
            refine skip_ (w1 := ?_) (by rfl) rfl ?_ ?_
            rotate_left
            · go_simp
              rfl
            refine hK.out _ _ ?_
            clear hK K
            refine done_ (by kernel_rfl) ?_
            all_goals
              have HDR := Aside0.mk (DRound (v1 := .slice A10 (l.length + 1) c10) (by simp) H8.out.keep.1 H9.out HSZ9.out HGW.out hown G3.out LB3.out N3.out C3Q.out C2Q.out HLP.out)
              have HM2 := Aside0.mk (More.step (m := k - (i.toNat + 1)) (by have h0 := HMO.out; have := HLT.out; rwa [show k - i.toNat = k - (i.toNat + 1) + 1 by omega] at h0) HA9.out)
              clear q34p z34p hown hHD q24 q30 q31 q32 q33 q34 z34 p2 q20 q21 q22 q23 z20 z21 z22 z23 z24
              go_wp2
              go_roundg (k - (i.toNat + 1))
              case measure => have := HI.out; have := HLT.out; omega
              case rel =>
                have e : (i + 1).toNat = i.toNat + 1 := by have := HPOS.out; omega
                have el : (l ++ [x]).length = l.length + 1 := by simp
                refine ⟨i + 1, l ++ [x], s9, A10, c10, ⟨by have := HPOS.out; omega, by have := HLT.out; omega, by have := HLT.out; have := HPOS.out; omega⟩, by first | rfl | (simp [hwr]; done) | go_num, ⟨HDR.out.1, HDR.out.2.1⟩, ⟨HDR.out.2.2.2.1⟩, ⟨HDR.out.2.2.1⟩, ⟨HDR.out.2.2.2.2⟩, ⟨by rw [e, el, HLN.out]⟩, ⟨by rw [e]; exact HM2.out⟩⟩
        · have hltb : decide (i < (k : Int)) = false := decide_eq_false hlt
          have HEND := Aside0.mk (show Left.after (s5.read (manyR (termR 14 0) k)) l s' from More.end_ (by have h0 := HMO.out; have := HI.out.1; rwa [show k - i.toNat = 0 by omega] at h0))
          clear hlt
          go_wp2
          refine bodyPost_ret (results_cell_row rfl _ _ b2 26 #[.int .i64 t.f0, .int .i64 t.f1, .string t.f2, .string (strOf b), .slice Al l.length cl] (0, 0) _ rfl (blk5 C2.out) Tryd.underlying26 rfl (by kernel_rfl)) rfl ?_
          exact RS.gives (val := ValD w) (x := ((t, strOf b, l) : Tm × ByteArray × List Tm)) (HW.out.1.set5 G2.out) ⟨_, rfl, ((((((HL.out.far LB2.out 0 _).far LB2.out 1 _).far LB2.out 2 _).far LB2.out 3 _).far LB2.out 4 _).lower H8.out.keep.1)⟩ (HAM.out _ _ HEND.out)
    · have HNO := Aside0.mk (show nameOk (strOf b) = false by unfold nameOk; rw [hCK]; simpa using hck)
      have c1 : (CK == 0) = false := by simpa using hck
      have c2 : (CK != 0) = true := by simpa using hck
      clear hCK hck
      go_wp2_with (first
        | (go_at_call 73; (with_reducible refine (small_s w0 _ rb B ((Left.stop (.ok r3)) 63) 0 8 hby H7.out.st).mono ?_); rintro e w8 hr; obtain ⟨k, v, s5, rfl, ⟨rfl, x0, x1⟩, hs, ha⟩ := hr.ex; have HA5 := Aside0.mk ha; replace B2 := Aside0.mk (H7.out.blk B2.out G2.out hr.keep); replace B3 := Aside0.mk (H7.out.blk B3.out G3.out hr.keep); have H8 := Aside0.mk (H7.out.call hs hr.keep); obtain ⟨k, rfl⟩ := Int.eq_ofNat_of_zero_le x0; have HK := Aside0.mk (show k ≤ 255 by omega); clear hr ha hs x0 x1; clear q20 z20 q21 z21 q22 z22 q23 z23 q24 z24 q30 z30 q31 z31 q32 z32 q33 z33 q34 z34; have q20 := (blk_cell B2.out 0).trans rfl; have z20 := blk_frozen B2.out 0; have q21 := (blk_cell B2.out 1).trans rfl; have z21 := blk_frozen B2.out 1; have q22 := (blk_cell B2.out 2).trans rfl; have z22 := blk_frozen B2.out 2; have q23 := (blk_cell B2.out 3).trans rfl; have z23 := blk_frozen B2.out 3; have q24 := (blk_cell B2.out 4).trans rfl; have z24 := blk_frozen B2.out 4; have q30 := (blk_cell B3.out 0).trans rfl; have z30 := blk_frozen B3.out 0; have q31 := (blk_cell B3.out 1).trans rfl; have z31 := blk_frozen B3.out 1; have q32 := (blk_cell B3.out 2).trans rfl; have z32 := blk_frozen B3.out 2; have q33 := (blk_cell B3.out 3).trans rfl; have z33 := blk_frozen B3.out 3; have q34 := (blk_cell B3.out 4).trans rfl; have z34 := blk_frozen B3.out 4)
        | (go_at_call 75; (with_reducible refine (stop_s 63 (by decide) H6.out.st).mono ?_); rintro e w7 ⟨rfl, hs, hk⟩; replace B2 := Aside0.mk (H6.out.blk B2.out G2.out hk); replace B3 := Aside0.mk (H6.out.blk B3.out G3.out hk); have H7 := Aside0.mk (H6.out.call hs hk); clear hs hk q20 z20 q21 z21 q22 z22 q23 z23 q24 z24 q30 z30 q31 z31 q32 z32 q33 z33 q34 z34 p2; have q20 := (blk_cell B2.out 0).trans rfl; have z20 := blk_frozen B2.out 0; have q21 := (blk_cell B2.out 1).trans rfl; have z21 := blk_frozen B2.out 1; have q22 := (blk_cell B2.out 2).trans rfl; have z22 := blk_frozen B2.out 2; have q23 := (blk_cell B2.out 3).trans rfl; have z23 := blk_frozen B2.out 3; have q24 := (blk_cell B2.out 4).trans rfl; have z24 := blk_frozen B2.out 4; have q30 := (blk_cell B3.out 0).trans rfl; have z30 := blk_frozen B3.out 0; have q31 := (blk_cell B3.out 1).trans rfl; have z31 := blk_frozen B3.out 1; have q32 := (blk_cell B3.out 2).trans rfl; have z32 := blk_frozen B3.out 2; have q33 := (blk_cell B3.out 3).trans rfl; have z33 := blk_frozen B3.out 3; have q34 := (blk_cell B3.out 4).trans rfl; have z34 := blk_frozen B3.out 4)
        | (go_at_call 28; (with_reducible refine (HCKC.out _).mono ?_); rintro e w6 ⟨rfl, hb⟩; replace B2 := Aside0.mk (blk_below (far1 (j := 3) (x := .string (strOf b)) B2.out N3.out) hb); replace B3 := Aside0.mk (blk_below (blk_set B3.out 3 (.string (strOf b))) hb); have H6 := Aside0.mk ((H5.out.set G3.out 3 (.string (strOf b))).up hb); have p2 := H6.out.st.err_ok; clear hb q20 z20 q21 z21 q22 z22 q23 z23 q24 z24 q30 z30 q31 z31 q32 z32 q33 z33 q34 z34; have q20 := (blk_cell B2.out 0).trans rfl; have z20 := blk_frozen B2.out 0; have q21 := (blk_cell B2.out 1).trans rfl; have z21 := blk_frozen B2.out 1; have q22 := (blk_cell B2.out 2).trans rfl; have z22 := blk_frozen B2.out 2; have q23 := (blk_cell B2.out 3).trans rfl; have z23 := blk_frozen B2.out 3; have q24 := (blk_cell B2.out 4).trans rfl; have z24 := blk_frozen B2.out 4; have q30 := (blk_cell B3.out 0).trans rfl; have z30 := blk_frozen B3.out 0; have q31 := (blk_cell B3.out 1).trans rfl; have z31 := blk_frozen B3.out 1; have q32 := (blk_cell B3.out 2).trans rfl; have z32 := blk_frozen B3.out 2; have q33 := (blk_cell B3.out 3).trans rfl; have z33 := blk_frozen B3.out 3; have q34 := (blk_cell B3.out 4).trans rfl; have z34 := blk_frozen B3.out 4))
      have LB2 := Aside0.mk (blk_lt B2.out)
      have LB3 := Aside0.mk (blk_lt B3.out)
      have HAM : Aside0 (∀ x s', Left.after (s5.read (manyR (termR 14 0) k)) x s' → Left.after (s.read atomR) (t, strOf b, x) s') := ⟨fun x s' hx => after_then HA1.out (after_then HA2.out (after_then (by rw [Int.toNat_natCast]; exact HA3.out) (after_then (after_need_false (s := .ok r3) HNO.out) (after_then HA5.out (after_then (by rw [Int.toNat_natCast]; exact hx) after_give)))))⟩
      clear q20 z20 q21 z21 q22 z22 q23 z23 q24 z24 q30 z30 q31 z31 q32 z32 q33 z33 q34 z34
      go_loopg [6] k (fun gg s6 wr => ∃ (i : Int) (l : List Tm) (s' : Left) (Al : Option Addr) (cl : Nat), Aside0 (0 ≤ i ∧ i ≤ (k : Int) ∧ (k : Int) - i ≤ (gg : Int)) ∧ s6 = .int .i64 i ∧ Aside0 (RS w0 w wr rb B s' ∧ w8.heap.size ≤ wr.heap.size) ∧ Aside0 (wr.heap[b2]? = some (.cells #[.int .i64 0, .int .i64 0, .string (⟨#[]⟩ : ByteArray), .string (⟨#[]⟩ : ByteArray), .slice none 0 0] 26 (0, 0))) ∧ Aside0 (wr.heap[b3]? = some (.cells #[.int .i64 t.f0, .int .i64 t.f1, .string t.f2, .string (strOf b), .slice Al l.length cl] 26 (0, 0))) ∧ Aside0 (ValL w8 l wr (.slice Al l.length cl)) ∧ Aside0 (l.length = i.toNat) ∧ Aside0 (More s5 k (k - i.toNat) l s'))
      case atStart => exact ⟨0, [], s5, none, 0, ⟨by omega, by omega, by omega⟩, rfl, ⟨H8.out, Nat.le_refl _⟩, B2, B3, ⟨Kd.R_nil _ _ _ _ _⟩, ⟨rfl⟩, ⟨More.start _ _⟩⟩
      case round =>
        obtain ⟨i, l, s', Al, cl, HI, rfl, HW, C2, C3, HL, HLN, HMO⟩ := hrel
        have q24 := (blk_cell C2.out 4).trans rfl
        have q30 := (blk_cell C3.out 0).trans rfl
        have q31 := (blk_cell C3.out 1).trans rfl
        have q32 := (blk_cell C3.out 2).trans rfl
        have q33 := (blk_cell C3.out 3).trans rfl
        have q34 : wr.cell? ⟨b3, 4, none⟩ = some (.slice Al l.length cl) := (blk_cell C3.out 4).trans rfl
        have z34 := blk_frozen C3.out 4
        have q20 := (blk_cell C2.out 0).trans rfl
        have q21 := (blk_cell C2.out 1).trans rfl
        have q22 := (blk_cell C2.out 2).trans rfl
        have q23 := (blk_cell C2.out 3).trans rfl
        have z20 := blk_frozen C2.out 0
        have z21 := blk_frozen C2.out 1
        have z22 := blk_frozen C2.out 2
        have z23 := blk_frozen C2.out 3
        have z24 := blk_frozen C2.out 4
        by_cases hlt : i < (k : Int)
        · have hltb : decide (i < (k : Int)) = true := decide_eq_true hlt
          cases s' with
          | error d =>
            obtain ⟨p2, hd⟩ := HW.out.1.st.err_no
            have d0 : (d == 0) = false := by simpa using hd
            have HEND := Aside0.mk HMO.out.bad
            clear hd hlt
            go_wp2
            refine bodyPost_ret (results_cell_row rfl _ _ b2 26 #[.int .i64 t.f0, .int .i64 t.f1, .string t.f2, .string (strOf b), .slice Al l.length cl] (0, 0) _ rfl (blk5 C2.out) Tryd.underlying26 rfl (by kernel_rfl)) rfl ?_
            exact RS.gives (val := ValD w) (x := ((t, strOf b, l) : Tm × ByteArray × List Tm)) (HW.out.1.set5 G2.out) ⟨_, rfl, ((((((HL.out.far LB2.out 0 _).far LB2.out 1 _).far LB2.out 2 _).far LB2.out 3 _).far LB2.out 4 _).lower H8.out.keep.1)⟩ (HAM.out _ _ HEND.out)
          | ok rr =>
            have p2 := HW.out.1.st.err_ok
            have HPOS := Aside0.mk HI.out.1
            have HLT := Aside0.mk (show i.toNat < k by have := HI.out.1; omega)
            have hwr : wrap64 (i + 1) = i + 1 := by have := HK.out; have := HPOS.out; simp only [wrap64]; omega
            have HCL : Aside0 (∀ W, Sst w0 W rb B (.ok rr) → _) := ⟨fun W hW => term_s14 w0 W rb B (.ok rr) hby hW⟩
            clear hlt
            go_wp2
            have HWD : Aside0 (RS w0 w wr.drew rb B (.ok rr)) := ⟨HW.out.1.drew⟩
            have C2D := Aside0.mk (blk_drew C2.out)
            have C3D := Aside0.mk (blk_drew C3.out)
            have HLD := Aside0.mk (Kd.R_drew HL.out)
            have HSZ := Aside0.mk HW.out.2
            have hHD : wr.drew.cell? ⟨b3, 4, none⟩ = some (.slice Al l.length cl) := (blk_cell C3D.out 4).trans rfl
            refine start_ (n := 8) (S := fun w' => w'.cell? ⟨b3, 4, none⟩ = some (.slice Al l.length cl)) (ds := [7]) #[false, false, false, false, false, false, false, false] (by kernel_rfl) rfl rfl hHD (fun hHeld => ?_)
            refine pure_ (i := 0) (N := some 45) (v := ?_) (a' := ?_) #[true, false, false, false, false, false, false, false] rfl rfl (by kernel_rfl) (fun _ _ _ h => h) (Or.inl ⟨by rfl, ?_⟩) ?_ ?_
            rotate_left
            · intro w'
              go_simp
              with_reducible rfl
            rotate_left
            · simp only [Act.put, List.setIfInBounds_toArray, List.set_cons_zero, List.set_cons_succ, i64_w, i32_w]
              rfl
            refine pure_ (i := 2) (N := some 47) (v := ?_) (a' := ?_) #[true, false, true, false, false, false, false, false] rfl rfl (by kernel_rfl) (fun _ _ _ h => h) (Or.inl ⟨by rfl, ?_⟩) ?_ ?_
            rotate_left
            · intro w'
              go_simp
              with_reducible rfl
            rotate_left
            · simp only [Act.put, List.setIfInBounds_toArray, List.set_cons_zero, List.set_cons_succ, i64_w, i32_w]
              rfl
            refine take_ (i := 1) (N := some 46) (v := ?_) (a' := ?_) #[true, true, true, false, false, false, false, false] rfl rfl (by kernel_rfl) (fun _ _ _ h => h) (Or.inl ⟨by rfl, ?_⟩) hHeld ?_ ?_
            rotate_left
            · intro w' s0
              go_simp
              with_reducible rfl
            rotate_left
            · simp only [Act.put, List.setIfInBounds_toArray, List.set_cons_zero, List.set_cons_succ, i64_w, i32_w]
              rfl
            refine one_ (i := 3) (N := some 48) #[true, true, true, true, false, false, false, false] rfl rfl (by kernel_rfl) (by decide) (fun K hK => ?_)
            refine goes_ Tryd.func72 (by kernel_rfl) rfl #[.pointer (some ⟨rb, 0, none⟩), .bool false, .bool true, .bool true] (by rfl) rfl rfl (by simp only [List.map_toArray, List.map_cons, List.map_nil]; rfl) ?_
            with_reducible refine (HCL.out _ HWD.out.st).mono ?_
            rintro e w9 hr9
            obtain ⟨x, v9, s9, rfl, rfl, hs9, ha9⟩ := hr9.ex
            refine ⟨_, rfl, ?_⟩
            have C3P := Aside0.mk (HWD.out.blk C3D.out G3.out hr9.keep)
            have C2P := Aside0.mk (HWD.out.blk C2D.out G2.out hr9.keep)
            have H9 := Aside0.mk (HWD.out.call hs9 hr9.keep)
            have HSZ9 := Aside0.mk (show w8.heap.size ≤ w9.heap.size from Nat.le_trans HSZ.out hr9.keep.1)
            have HA9 := Aside0.mk ha9
            have HL9 := Aside0.mk (Kd.R_keep HLD.out hr9.keep (fun k hk' => by have := H8.out.lt; have := H8.out.keep.1; omega))
            clear hr9 hs9 ha9
            refine hK.out _ _ ((blk_cell C3P.out 4).trans rfl) (fun hHeld => ?_)
            clear hK K
            refine norm_ (a' := ?_) ?_ ?_
            rotate_left
            · show Act.put _ (some 48) _ = _
              simp only [Act.put, List.setIfInBounds_toArray, List.set_cons_zero, List.set_cons_succ, i64_w, i32_w]
              rfl
            refine one_ (i := 4) (N := some 49) #[true, true, true, true, true, false, false, false] rfl rfl (by kernel_rfl) (by decide) (fun K hK => ?_)
            refine value_ (w1 := ?_) (v := ?_) (by rfl) rfl ?_ ?_
            rotate_left 2
            · go_simp
              constructor
              · rfl
              · rfl
            refine hK.out _ _ ((blk_cell (blk_alloc C3P.out _) 4).trans rfl) (fun hHeld => ?_)
            clear hK K
            refine norm_ (a' := ?_) ?_ ?_
            rotate_left
            · show Act.put _ (some 49) _ = _
              simp only [Act.put, List.setIfInBounds_toArray, List.set_cons_zero, List.set_cons_succ, i64_w, i32_w]
              rfl
            refine one_ (i := 5) (N := some 50) #[true, true, true, true, true, true, false, false] rfl rfl (by kernel_rfl) (by decide) (fun K hK => ?_)
            refine Kd.R_append_step k23 (w0 := w9) w8.heap.size (by rfl) (.tmp 46) (.tmp 49) 24 23 (.agg #[(.int .i64 0), (.int .i64 0), (.string ⟨#[]⟩)]) 32 rfl Tryd.underlying24 infoTm rfl (by decide) (by omega) (.slice Al l.length cl) l x [.int .i64 x.f0, .int .i64 x.f1, .string x.f2] (fun k => w8.heap.size ≤ k) (fun _ => False) rfl rfl (k23_mkM _ _ _ x) (fun _ hk => hk.elim) (fun k hk => Nat.le_trans HSZ9.out hk) HL9.out (Below.refl _ _) HSZ9.out (by have := HLN.out; have := HLT.out; have := HK.out; omega) ?_
            intro v10 w10 ho hb hg hat
            obtain ⟨A10, c10, rfl⟩ := Kd.R_slice ho
            have HLP := Aside0.mk ho
            have hown := HL9.out.1
            have C3Q := Aside0.mk (blk_grown C3P.out hg (Kd.R_ne HL9.out C3P.out (by decide)))
            have C2Q := Aside0.mk (blk_grown C2P.out hg (Kd.R_ne HL9.out C2P.out (by decide)))
            have HGW := Aside0.mk hg
            clear ho hb hg hat
            refine hK.out _ _ ((blk_cell C3Q.out 4).trans rfl) (fun hHeld => ?_)
            clear hK K
            refine norm_ (a' := ?_) ?_ ?_
            rotate_left
            · show Act.put _ (some 50) _ = _
              simp only [Act.put, List.setIfInBounds_toArray, List.set_cons_zero, List.set_cons_succ, i64_w, i32_w]
              rfl
            refine pure_ (i := 6) (N := some 51) (v := ?_) (a' := ?_) #[true, true, true, true, true, true, true, false] rfl rfl (by kernel_rfl) (fun _ _ _ h => h) (Or.inl ⟨by rfl, ?_⟩) ?_ ?_
            rotate_left
            · intro w'
              go_simp
              with_reducible rfl
            rotate_left
            · simp only [Act.put, List.setIfInBounds_toArray, List.set_cons_zero, List.set_cons_succ, i64_w, i32_w]
              rfl
            refine last_ (i := 7) (N := none) #[true, true, true, true, true, true, true, true] rfl rfl (by kernel_rfl) (by decide) (fun K hK => ?_)
            have q34p : w10.cell? ⟨b3, 4, none⟩ = some (.slice Al l.length cl) := (blk_cell C3Q.out 4).trans rfl
            have z34p := blk_frozen C3Q.out 4
            refine skip_ (w1 := ?_) (by rfl) rfl ?_ ?_
            rotate_left
            · go_simp
              rfl
            refine hK.out _ _ ?_
            clear hK K
            refine done_ (by kernel_rfl) ?_
            all_goals
              have HDR := Aside0.mk (DRound (v1 := .slice A10 (l.length + 1) c10) (by simp) H8.out.keep.1 H9.out HSZ9.out HGW.out hown G3.out LB3.out N3.out C3Q.out C2Q.out HLP.out)
              have HM2 := Aside0.mk (More.step (m := k - (i.toNat + 1)) (by have h0 := HMO.out; have := HLT.out; rwa [show k - i.toNat = k - (i.toNat + 1) + 1 by omega] at h0) HA9.out)
              clear q34p z34p hown hHD q24 q30 q31 q32 q33 q34 z34 p2 q20 q21 q22 q23 z20 z21 z22 z23 z24
              go_wp2
              go_roundg (k - (i.toNat + 1))
              case measure => have := HI.out; have := HLT.out; omega
              case rel =>
                have e : (i + 1).toNat = i.toNat + 1 := by have := HPOS.out; omega
                have el : (l ++ [x]).length = l.length + 1 := by simp
                refine ⟨i + 1, l ++ [x], s9, A10, c10, ⟨by have := HPOS.out; omega, by have := HLT.out; omega, by have := HLT.out; have := HPOS.out; omega⟩, by first | rfl | (simp [hwr]; done) | go_num, ⟨HDR.out.1, HDR.out.2.1⟩, ⟨HDR.out.2.2.2.1⟩, ⟨HDR.out.2.2.1⟩, ⟨HDR.out.2.2.2.2⟩, ⟨by rw [e, el, HLN.out]⟩, ⟨by rw [e]; exact HM2.out⟩⟩
        · have hltb : decide (i < (k : Int)) = false := decide_eq_false hlt
          have HEND := Aside0.mk (show Left.after (s5.read (manyR (termR 14 0) k)) l s' from More.end_ (by have h0 := HMO.out; have := HI.out.1; rwa [show k - i.toNat = 0 by omega] at h0))
          clear hlt
          go_wp2
          refine bodyPost_ret (results_cell_row rfl _ _ b2 26 #[.int .i64 t.f0, .int .i64 t.f1, .string t.f2, .string (strOf b), .slice Al l.length cl] (0, 0) _ rfl (blk5 C2.out) Tryd.underlying26 rfl (by kernel_rfl)) rfl ?_
          exact RS.gives (val := ValD w) (x := ((t, strOf b, l) : Tm × ByteArray × List Tm)) (HW.out.1.set5 G2.out) ⟨_, rfl, ((((((HL.out.far LB2.out 0 _).far LB2.out 1 _).far LB2.out 2 _).far LB2.out 3 _).far LB2.out 4 _).lower H8.out.keep.1)⟩ (HAM.out _ _ HEND.out)
end Go.Proofs.YtdplpcedfkfajaaDoor.T
/- The walks of the document's reader: end. -/
set_option linter.unusedVariables false
set_option linter.unusedSimpArgs false
namespace Go.Proofs.YtdplpcedfkfajaaDoor.T
open Go.RowKit Go.Proofs.YtdplpcedfkfajaaDoorW.PrintWords Go.Proofs.YtdplpcedfkfajaaDoorW.PrintLast
/-- Nothing may be left. -/
def Left.fin (s : Left) : Left := match s with
  | .ok [] => .ok []
  | .ok (_ :: _) => .error 62
  | .error d => .error d
theorem Left.fin_more {s : Left} {B : List Int} {at_ e : Int} (h : Left.at_ B s at_ e) (h0 : 0 ≤ at_) (hl : at_ < B.length) : s.stop 62 = s.fin := by
  cases s with
  | error d => rfl
  | ok rest =>
    obtain ⟨_, h⟩ := h
    cases rest with
    | cons x r => rfl
    | nil => exact absurd h (by rw [List.drop_eq_nil_iff]; omega)
theorem Left.fin_end {s : Left} {B : List Int} {at_ e : Int} (h : Left.at_ B s at_ e) (hl : ¬ at_ < B.length) : s = s.fin := by
  cases s with
  | error d => rfl
  | ok rest =>
    obtain ⟨_, h⟩ := h
    have : rest = [] := by rw [← h, List.drop_eq_nil_iff]; omega
    subst this
    rfl
set_option maxHeartbeats 4000000 in
set_option maxRecDepth 100000 in
theorem end_s {w0 w : World} {rb : Nat} {B : List Int} {s : Left} (h : Sst w0 w rb B s) :
    Calls Tryd.prog 34 #[.pointer (some ⟨rb, 0, none⟩)] w fun e w' => e = .returned (.tuple #[]) ∧ Sst w0 w' rb B s.fin ∧ KeepBut w w' rb none := by
  have HS := Aside0.mk h
  have hu60 := Tryd.underlying60
  obtain ⟨A, c, a, e, hb, hc, hr, ha0, ha1, hs⟩ := h.ex
  have HBK := Aside0.mk hb
  have p0 := (blk_cell HBK.out 0).trans rfl
  have p1 := (blk_cell HBK.out 1).trans rfl
  have HX := Aside0.mk hs
  have HA0 := Aside0.mk ha0
  clear h hb hc hr ha1 hs ha0
  by_cases hlt : a < (B.length : Int)
  · have hd : decide (a < (B.length : Int)) = true := decide_eq_true hlt
    have HF := Aside0.mk (Left.fin_more HX.out HA0.out hlt)
    clear hlt
    go_enter Tryd.func34, Tryd.ntmps34
    go_wp2
    go_quiet (fail)
    go_wp2_with (first
      | (go_at_call 75; (with_reducible refine (stop_s 62 (by decide) (HS.out.drewN _)).mono ?_); rintro e w1 ⟨rfl, hs, hk⟩; have H1 := Aside0.mk hs; have HK := Aside0.mk hk; clear hs hk))
    first | go_end0 | ((try simp only [Exit.inBlock, Exit.then]); refine bodyPost_ret (results_none rfl _ _ _) rfl ?_)
    exact ⟨rfl, by rw [← HF.out]; exact H1.out, (KeepBut.drewN_ (KeepBut.refl _ _ _) _).trans HK.out (Or.inl rfl)⟩
  · have hd : decide (a < (B.length : Int)) = false := decide_eq_false hlt
    have HF := Aside0.mk (Left.fin_end HX.out hlt)
    clear hlt
    go_enter Tryd.func34, Tryd.ntmps34
    go_wp2
    go_quiet (fail)
    go_wp2
    first | go_end0 | ((try simp only [Exit.inBlock, Exit.then]); refine bodyPost_ret (results_none rfl _ _ _) rfl ?_)
    exact ⟨rfl, by rw [← HF.out]; exact HS.out.drewN _, KeepBut.drewN_ (KeepBut.refl _ _ _) _⟩
end Go.Proofs.YtdplpcedfkfajaaDoor.T
/- The walk of the document's ReadAtom. -/
set_option linter.unusedVariables false
set_option linter.unusedSimpArgs false
namespace Go.Proofs.YtdplpcedfkfajaaDoor.T
open Go.RowKit Go.Proofs.YtdplpcedfkfajaaDoorW.PrintWords Go.Proofs.YtdplpcedfkfajaaDoorW.PrintLast
theorem res_ok {bs r : List Int} {x : Tm × ByteArray × List Tm} {s : Left} (h : Left.after (Left.read (.ok bs) atomR) x s) (hf : s.fin = .ok r) : readRes (atomR bs) = (x, 0) := by
  simp only [Left.read] at h
  cases hq : atomR bs with
  | error d => rw [hq] at h; simp only [Left.after] at h; subst h; cases hf
  | ok p =>
    obtain ⟨y, l⟩ := p
    rw [hq] at h
    obtain ⟨rfl, rfl⟩ := h
    cases l with
    | nil => rfl
    | cons a l => cases hf
theorem res_no {bs : List Int} {x : Tm × ByteArray × List Tm} {s : Left} {d : Int} (h : Left.after (Left.read (.ok bs) atomR) x s) (hf : s.fin = .error d) : readRes (atomR bs) = ((⟨0, 0, ⟨#[]⟩⟩, ⟨#[]⟩, []), d) := by
  simp only [Left.read] at h
  cases hq : atomR bs with
  | error d' => rw [hq] at h; simp only [Left.after] at h; subst h; injection hf with hf; rw [← hf]; rfl
  | ok p =>
    obtain ⟨y, l⟩ := p
    rw [hq] at h
    obtain ⟨rfl, rfl⟩ := h
    cases l with
    | nil => cases hf
    | cons a l => injection hf with hf; rw [← hf]; rfl
set_option maxHeartbeats 8000000 in
set_option maxRecDepth 100000 in
theorem dreadAtom_calls (w : World) (A : Option Addr) (c : Nat) (bs : List Int) (hR : ReadsInt w .u8 A bs.length bs) (hc : bs.length ≤ c) (hby : isBytes bs) :
    Calls Tryd.prog 12 #[.slice A bs.length c] w (ReadA w (readRes (atomR bs))) := by
  have hu26 := Tryd.underlying26
  have hu23 := Tryd.underlying23
  have hu60 := Tryd.underlying60
  have HR := Aside0.mk hR
  have HC := Aside0.mk hc
  clear hR hc
  go_enter Tryd.func12, Tryd.ntmps12
  go_wp2_with (first
    | ((with_reducible refine gate_dst (N := 2) rfl ?_); refine box_event ?hg (N := 2) ?hd (cs := #[.int .i64 0, .int .i64 0, .string (⟨#[]⟩ : ByteArray), .string (⟨#[]⟩ : ByteArray), .slice none 0 0]) (t := 26) ?hr ?_; (case hd => rfl); (case hg => rfl); (case hr => first | (go_simp; done) | (go_simp; rfl)); intro b2 hb2 w1 hbox hb; have B2 := Aside0.mk hbox; have HB1 := Aside0.mk hb; have G2 := Aside0.mk (show w.heap.size ≤ b2 by omega); clear hb2 hbox hb)
    | ((with_reducible refine gate_dst (N := 8) rfl ?_); refine box_event ?hg (N := 8) ?hd (cs := #[.slice A bs.length c, .int .i64 0, .int .i64 0]) (t := 60) ?hr ?_; (case hd => rfl); (case hg => rfl); (case hr => first | (go_simp; done) | (go_simp; rfl)); intro rb hrb w3 hbox hb; have HB3 := Aside0.mk (below_step HB1.out hb); have NR2 := Aside0.mk (show b2 ≠ rb by have := blk_lt B2.out; omega); have HST := Aside0.mk (show Sst w w3 rb bs (.ok bs) from ⟨⟨A, c, 0, 0, hbox, HC.out, HR.out, by omega, by omega, rfl, rfl⟩, HB3.out, by have := HB1.out.size; omega⟩); have GR := Aside0.mk (show w.heap.size ≤ rb by have := HB1.out.size; omega); replace B2 := Aside0.mk (blk_below B2.out hb); clear hrb hbox hb))
  refine (atom_s w _ rb bs (.ok bs) hby HST.out).mono ?_
  rintro e w4 hr
  obtain ⟨⟨t, nm, l⟩, v, s1, rfl, ⟨sl, rfl, hL⟩, hs, ha⟩ := hr.ex
  obtain ⟨Al, cl, rfl⟩ := Kd.R_slice hL
  have HA := Aside0.mk ha
  have HL := Aside0.mk hL
  have L2 := Aside0.mk (show b2 < w3.heap.size from blk_lt B2.out)
  replace B2 := Aside0.mk (hr.keep.blk B2.out NR2.out (by simp))
  have H4 := Aside0.mk ((RS.start HST.out).call hs hr.keep)
  have HSZ := Aside0.mk (show w.heap.size ≤ w3.heap.size from HB3.out.size)
  clear hr hs ha hL
  go_wp2_with (first
    | ((with_reducible refine gate_dst (N := 5) rfl ?_); refine box_event ?hg (N := 5) ?hd (cs := #[.int .i64 0, .int .i64 0, .string (⟨#[]⟩ : ByteArray), .string (⟨#[]⟩ : ByteArray), .slice none 0 0]) (t := 26) ?hr ?_; (case hd => rfl); (case hg => rfl); (case hr => first | (go_simp; done) | (go_simp; rfl)); intro b5 hb5 w5 hbox hb; have H5 := Aside0.mk (H4.out.up hb); have B5 := Aside0.mk hbox; have G5 := Aside0.mk (show w3.heap.size ≤ b5 by have := H4.out.keep.1; omega); have N5 := Aside0.mk (show b2 ≠ b5 by have := blk_lt B2.out; omega); have L5 := Aside0.mk (show w4.heap.size ≤ b5 by omega); replace B2 := Aside0.mk (blk_below B2.out hb); replace HL := Aside0.mk (Kd.R_below HL.out hb); clear hb5 hbox hb; have q50 := (blk_cell B5.out 0).trans rfl; have z50 := blk_frozen B5.out 0; have q51 := (blk_cell B5.out 1).trans rfl; have z51 := blk_frozen B5.out 1; have q52 := (blk_cell B5.out 2).trans rfl; have z52 := blk_frozen B5.out 2; have q53 := (blk_cell B5.out 3).trans rfl; have z53 := blk_frozen B5.out 3; have q54 := (blk_cell B5.out 4).trans rfl; have z54 := blk_frozen B5.out 4))
  refine (end_s (H5.out.set5 G5.out).st).mono ?_
  rintro e w6 ⟨rfl, hs, hk⟩
  have HL6 : Aside0 (ValL w3 l w6 (.slice Al l.length cl)) := ⟨Kd.R_mono (Kd.R_keep (Kd.R_far (Kd.R_far (Kd.R_far (Kd.R_far (Kd.R_far (Kd.R_types HL.out B5.out (by decide)) (p := ⟨b5, 0, none⟩) (fun k hk => hk.2) _) (p := ⟨b5, 1, none⟩) (fun k hk => hk.2) _) (p := ⟨b5, 2, none⟩) (fun k hk => hk.2) _) (p := ⟨b5, 3, none⟩) (fun k hk => hk.2) _) (p := ⟨b5, 4, none⟩) (fun k hk => hk.2) _) hk (fun k hk' => by have := HST.out.lt; have := hk'.1; omega)) (fun k hk => hk.1)⟩
  replace B2 := Aside0.mk (hk.blk (far5 B2.out N5.out) NR2.out (by simp))
  replace B5 := Aside0.mk (hk.blk (blk5 B5.out) (show b5 ≠ rb by have := HST.out.lt; have := G5.out; omega) (by simp))
  have H6 := Aside0.mk ((H5.out.set5 G5.out).call hs hk)
  clear hs hk q50 z50 q51 z51 q52 z52 q53 z53 q54 z54
  have q20 := (blk_cell B2.out 0).trans rfl
  have z20 := blk_frozen B2.out 0
  have q21 := (blk_cell B2.out 1).trans rfl
  have z21 := blk_frozen B2.out 1
  have q22 := (blk_cell B2.out 2).trans rfl
  have z22 := blk_frozen B2.out 2
  have q23 := (blk_cell B2.out 3).trans rfl
  have z23 := blk_frozen B2.out 3
  have q24 := (blk_cell B2.out 4).trans rfl
  have z24 := blk_frozen B2.out 4
  have q50 := (blk_cell B5.out 0).trans rfl
  have z50 := blk_frozen B5.out 0
  have q51 := (blk_cell B5.out 1).trans rfl
  have z51 := blk_frozen B5.out 1
  have q52 := (blk_cell B5.out 2).trans rfl
  have z52 := blk_frozen B5.out 2
  have q53 := (blk_cell B5.out 3).trans rfl
  have z53 := blk_frozen B5.out 3
  have q54 := (blk_cell B5.out 4).trans rfl
  have z54 := blk_frozen B5.out 4
  cases hf : s1.fin with
  | error d =>
    have HRES := Aside0.mk (res_no HA.out hf)
    rw [hf] at H6
    obtain ⟨p2, hd⟩ := H6.out.st.err_no
    have d0 : (d == 0) = false := by simpa using hd
    have d1 : (d != 0) = true := by simpa using hd
    have hne := NR2.out
    have hne' := Ne.symm NR2.out
    clear hd hf
    go_wp2
    go_region_held3 (fun w' => w'.cell? ⟨rb, 2, none⟩ = some (.int .i64 d))
      (go_keep)
      (fail)
    go_wp2
    refine bodyPost_ret (results_ct rfl _ _ b2 26 #[.int .i64 0, .int .i64 0, .string (⟨#[]⟩ : ByteArray), .string (⟨#[]⟩ : ByteArray), .slice none 0 0] (0, 0) _ rfl (by first | exact blk5 B2.out | exact blk5 (blk_drew B2.out) | exact blk_drew (blk5 B2.out)) Tryd.underlying26 rfl (by kernel_rfl)) rfl ?_
    rw [HRES.out]
    have HB := H6.out.st.below
    exact ReadA.fault w _ d (by first | exact ((((HB.setCell G2.out _).setCell G2.out _).setCell G2.out _).setCell G2.out _).setCell G2.out _ | exact (((((below_drew HB).setCell G2.out _).setCell G2.out _).setCell G2.out _).setCell G2.out _).setCell G2.out _)
  | ok r =>
    have HRES := Aside0.mk (res_ok HA.out hf)
    rw [hf] at H6
    have p2 := H6.out.st.err_ok
    clear hf
    go_wp2
    refine bodyPost_ret (results_ct rfl _ _ b2 26 #[.int .i64 t.f0, .int .i64 t.f1, .string t.f2, .string nm, .slice Al l.length cl] (0, 0) _ rfl (blk5 B2.out) Tryd.underlying26 rfl (by kernel_rfl)) rfl ?_
    rw [HRES.out]
    have HB := H6.out.st.below
    exact ⟨⟨_, rfl, _, rfl, ValL.lower (((((HL6.out.far L2.out 0 _).far L2.out 1 _).far L2.out 2 _).far L2.out 3 _).far L2.out 4 _) HSZ.out⟩, ((((HB.setCell G2.out _).setCell G2.out _).setCell G2.out _).setCell G2.out _).setCell G2.out _⟩
end Go.Proofs.YtdplpcedfkfajaaDoor.T
/- The document's numbers in bytes, plainly. -/
set_option linter.unusedVariables false
set_option linter.unusedSimpArgs false
namespace Go.Proofs.YtdplpcedfkfajaaDoor.T
open Go.RowKit Go.Lib Go.Proofs.YtdplpcedfkfajaaDoorW.PrintWords
theorem be_f8 (v : Int) (k : Nat) (hk : 10 ≤ k) : hearsayref06_be.f k v 8 = some ((List.range 8).map fun i => (shr .u64 v (8 * (7 - i : Nat) : Nat)) % 256) := by
  obtain ⟨k, rfl⟩ := Nat.exists_eq_add_of_le hk
  unfold hearsayref06_be.f
  simp [Nat.add_comm 10 k, hearsayref06_be.l0, wrap64, IntKind.wrap, IntKind.bits, IntKind.signed, List.range, List.range.loop]
theorem be_f (v : Int) (k : Nat) (hk : 10 ≤ k) : hearsayref06_be.f k v 8 = some (beI v 8) := by
  rw [be_f8 v k hk]
  simp [List.range, List.range.loop, beI, shr, IntKind.bits]
/-- A term of a valid kind that isn't too long: its bytes. -/
theorem rterm_f (t : Tm) (k : Nat) (hk : 10 ≤ k) (h0 : 0 ≤ t.f0 ∧ t.f0 ≤ 3) (hs : t.f2.size ≤ 1000) : hearsayref06_term.f k t.f0 t.f1 t.f2 = some (encT t) := by
  obtain ⟨a, b, s⟩ := t
  simp only at h0 hs ⊢
  have hl := beI_len (u64 b) 8
  have hu : IntKind.u64.wrap b = u64 b := rfl
  have ha : a = 0 ∨ a = 1 ∨ a = 2 ∨ a = 3 := by omega
  unfold hearsayref06_term.f encT
  rw [hu, be_f _ k hk]
  rcases ha with rfl | rfl | rfl | rfl
  · simp
  · simp [hl]
  · have h2 : (2 + s.size) < 140737488355328 := by omega
    simp [h2, Nat.add_comm]
    try omega
  · simp [hl]
theorem encT_le (t : Tm) (hs : t.f2.size ≤ 1000) : (encT t).length ≤ 2000 := by
  unfold encT
  split
  · simp [beI_len]
  · split
    · simp [bytesOf_length]; omega
    · simp
theorem ratom_l (A B : Int) (C D : ByteArray) (l : List Tm) (hl : l.length ≤ 1000) (hv : ∀ t ∈ l, (0 ≤ t.f0 ∧ t.f0 ≤ 3) ∧ t.f2.size ≤ 1000) : ∀ (m i k : Nat) (x : List Int), i + m = l.length → 11 + m ≤ k → x.length + 2000 * m < 140737488355328 → hearsayref06_atom.l0 k x i A B C D l = some (x ++ encTs (l.drop i))
  | 0, i, k, x, hi, hk, hx => by
    obtain ⟨k, rfl⟩ := Nat.exists_eq_add_of_le' (show 1 ≤ k by omega)
    have e : l.drop i = [] := by rw [List.drop_eq_nil_iff]; omega
    rw [hearsayref06_atom.l0, if_neg (by omega), e]
    simp [encTs]
  | m + 1, i, k, x, hi, hk, hx => by
    obtain ⟨k, rfl⟩ := Nat.exists_eq_add_of_le' (show 1 ≤ k by omega)
    have hlt : i < l.length := by omega
    have hr : rd_T23 l (i : Int) = l[i] := by simp [rd_T23, List.getD_eq_getElem?_getD, List.getElem?_eq_getElem hlt]
    have h1 := hv l[i] (List.getElem_mem hlt)
    have hle := encT_le l[i] h1.2
    have hw : wrap64 ((i : Int) + 1) = ((i + 1 : Nat) : Int) := by simp only [wrap64]; omega
    have he : encTs (l.drop i) = encT l[i] ++ encTs (l.drop (i + 1)) := by rw [List.drop_eq_getElem_cons hlt]; rfl
    rw [hearsayref06_atom.l0, if_pos (by omega), if_pos (by omega), hr, rterm_f l[i] k (by omega) h1.1 h1.2, Option.bind_some, if_pos (by omega), hw, ratom_l A B C D l hl hv m (i + 1) k _ (by omega) (by omega) (by rw [List.length_append]; omega), he, List.append_assoc]
/-- A valid atom's bytes. -/
theorem ratom_f (t : Tm) (nm : ByteArray) (l : List Tm) (k : Nat) (hk : 1100 ≤ k) (ht : (0 ≤ t.f0 ∧ t.f0 ≤ 3) ∧ t.f2.size ≤ 1000) (hn : nm.size ≤ 1000) (hl : l.length ≤ 1000) (hv : ∀ t ∈ l, (0 ≤ t.f0 ∧ t.f0 ≤ 3) ∧ t.f2.size ≤ 1000) : hearsayref06_atom.f k t.f0 t.f1 t.f2 nm l = some (encA t nm l) := by
  have hle := encT_le t ht.2
  unfold hearsayref06_atom.f
  rw [rterm_f t k (by omega) ht.1 ht.2, Option.bind_some, if_pos (by omega), Option.bind_some, if_pos (by rw [List.length_append]; simp; omega), Option.bind_some, if_pos (by simp [bytesOf_length]; omega)]
  have h := ratom_l t.f0 t.f1 t.f2 nm l hl hv l.length 0 k ((encT t ++ [((nm.size : Int)) % 256] ++ bytesOf nm) ++ [((l.length : Int)) % 256]) (by omega) (by omega) (by simp [bytesOf_length]; omega)
  rw [List.drop_zero] at h
  exact h.trans (by simp [encA])
end Go.Proofs.YtdplpcedfkfajaaDoor.T
/- The document's Atom: the bytes of a valid atom, or the error. -/
set_option linter.unusedVariables false
set_option linter.unusedSimpArgs false
namespace Go.Proofs.YtdplpcedfkfajaaDoor.T
open Go.RowKit Go.Lib Go.Proofs.YtdplpcedfkfajaaDoorW.PrintWords
theorem size_of_nil {s : ByteArray} (h : (s.toList == ([] : List UInt8)) = true) : s.size = 0 := by
  have h1 : s.toList = [] := by simpa using h
  by_cases h0 : 0 < s.size
  · obtain ⟨h2, _⟩ := ba_get h0
    rw [h1] at h2
    exact absurd h2 (by simp)
  · omega
theorem isConst_ok {t : Tm} (h : isConst t = true) : (0 ≤ t.f0 ∧ t.f0 ≤ 3) ∧ t.f2.size ≤ 1000 := by
  unfold isConst at h
  simp only [Bool.or_eq_true, Bool.and_eq_true, decide_eq_true_eq] at h
  rcases h with ⟨h1, h2⟩ | ⟨h1, h2, h3⟩
  · have := size_of_nil h2; omega
  · omega
theorem isVar_ok {t : Tm} (h : isVar t = true) : (0 ≤ t.f0 ∧ t.f0 ≤ 3) ∧ t.f2.size ≤ 1000 := by
  unfold isVar at h
  simp only [Bool.and_eq_true, decide_eq_true_eq] at h
  have := size_of_nil h.2.2
  omega
theorem nameB_ok {s : ByteArray} (h : nameB s = true) : s.size ≤ 1000 := by
  unfold nameB at h
  by_cases h1 : s.toList = []
  · rw [if_pos h1] at h; cases h
  · rw [if_neg h1] at h
    by_cases h2 : (s.size : Int) > 32
    · rw [if_pos h2] at h; cases h
    · omega
theorem checkA_ok {t : Tm} {nm : ByteArray} {l : List Tm} (h : checkA t nm l = 0) : ((0 ≤ t.f0 ∧ t.f0 ≤ 3) ∧ t.f2.size ≤ 1000) ∧ nm.size ≤ 1000 ∧ l.length ≤ 1000 ∧ ∀ t ∈ l, (0 ≤ t.f0 ∧ t.f0 ≤ 3) ∧ t.f2.size ≤ 1000 := by
  unfold checkA at h
  by_cases h1 : nameB nm = true
  · rw [if_pos h1] at h
    by_cases h2 : (l.length : Int) > 8
    · rw [if_pos h2] at h; cases h
    · rw [if_neg h2] at h
      by_cases h3 : (!nilT t && (!isPrin t && !isVar t)) = true
      · rw [if_pos h3] at h; cases h
      · rw [if_neg h3] at h
        by_cases h4 : l.any badT = true
        · rw [if_pos h4] at h; cases h
        · refine ⟨?_, nameB_ok h1, by omega, fun u hu => ?_⟩
          · simp only [Bool.and_eq_true, Bool.not_eq_true', not_and, Bool.not_eq_false] at h3
            by_cases hn : nilT t = true
            · unfold nilT at hn
              simp only [Bool.and_eq_true, beq_iff_eq] at hn
              have := size_of_nil (s := t.f2) (by simpa using hn.2.2)
              omega
            · by_cases hp : isPrin t = true
              · unfold isPrin at hp
                rw [Bool.and_eq_true] at hp
                exact isConst_ok hp.1
              · exact isVar_ok (h3 (by simpa using hn) (by simpa using hp))
          · have h5 : ¬ badT u = true := fun hb => h4 (List.any_eq_true.2 ⟨u, hu, hb⟩)
            unfold badT at h5
            by_cases hc : isConst u = true
            · exact isConst_ok hc
            · exact isVar_ok (by simpa [hc] using h5)
  · rw [if_neg h1] at h; cases h
/-- The document's Atom is codec's. -/
theorem rAtom_f (t : Tm) (nm : ByteArray) (l : List Tm) (k : Nat) (hk : 1100 ≤ k) : hearsayref06_Atom.f k t.f0 t.f1 t.f2 nm l = some (codecAtom t nm l) := by
  unfold hearsayref06_Atom.f codecAtom
  rw [rcheckAtom_f t nm l k (by omega), Option.bind_some]
  by_cases h : checkA t nm l = 0
  · obtain ⟨h1, h2, h3, h4⟩ := checkA_ok h
    rw [if_pos h, if_pos h, ratom_f t nm l k hk h1 h2 h3 h4]; rfl
  · rw [if_neg h, if_neg h]
end Go.Proofs.YtdplpcedfkfajaaDoor.T
/- The walk of CodecAtoms. -/
set_option linter.unusedVariables false
set_option linter.unusedSimpArgs false
namespace Go.Proofs.YtdplpcedfkfajaaDoor.T
open Go.RowKit Go.Proofs.YtdplpcedfkfajaaDoorW.PrintWords Go.Proofs.YtdplpcedfkfajaaDoorW.PrintLast
/-- An atom stored into a block. -/
abbrev put5 (W : World) (b : Nat) (t : Tm) (nm : ByteArray) (v : Value) : World := ((((W.setCell ⟨b, 0, none⟩ (.int .i64 t.f0)).setCell ⟨b, 1, none⟩ (.int .i64 t.f1)).setCell ⟨b, 2, none⟩ (.string t.f2)).setCell ⟨b, 3, none⟩ (.string nm)).setCell ⟨b, 4, none⟩ v
theorem put5_below {w W : World} {b : Nat} (h : Below w.heap.size w W) (hb : w.heap.size ≤ b) (t : Tm) (nm : ByteArray) (v : Value) : Below w.heap.size w (put5 W b t nm v) := ((((h.setCell hb _).setCell hb _).setCell hb _).setCell hb _).setCell hb _
theorem put5_R {α : Type} {d : Kd α} {e : Nat} {W : World} {base b : Nat} {ok : Nat → Prop} {v : Value} {xs : List α} (h : d.R e W base ok v xs) (hne : ∀ k, ok k → k ≠ b) (t : Tm) (nm : ByteArray) (u : Value) : d.R e (put5 W b t nm u) base ok v xs :=
  Kd.R_far (Kd.R_far (Kd.R_far (Kd.R_far (Kd.R_far h (p := ⟨b, 0, none⟩) hne _) (p := ⟨b, 1, none⟩) hne _) (p := ⟨b, 2, none⟩) hne _) (p := ⟨b, 3, none⟩) hne _) (p := ⟨b, 4, none⟩) hne _
theorem R_under {α : Type} {d : Kd α} {e : Nat} {W : World} {base : Nat} {ok : Nat → Prop} {v : Value} {xs : List α} (h : d.R e W base ok v xs) : d.R e W base (fun k => k < W.heap.size) v xs := Kd.R_mono (Kd.R_bound h) (fun k hk => hk.2.2.1)
theorem then_inv {α β : Type} {r : Rd α} {f : α → Rd β} {l : List Int} {y : β × List Int} (h : (r.then f) l = .ok y) : ∃ x l', r l = .ok (x, l') ∧ f x l' = .ok y := by
  unfold Rd.then at h
  cases hr : r l with
  | error e => rw [hr] at h; cases h
  | ok p => rw [hr] at h; exact ⟨p.1, p.2, rfl, h⟩
theorem many_len {one : Rd Tm} : ∀ (n : Nat) (bs r : List Int) (l : List Tm), manyR one n bs = .ok (l, r) → l.length = n
  | 0, bs, r, l, h => by
    simp only [manyR, Rd.give] at h
    injection h with h; injection h with h _
    rw [← h]; rfl
  | n + 1, bs, r, l, h => by
    obtain ⟨x, r1, _, h⟩ := then_inv h
    obtain ⟨l1, r2, h1, h⟩ := then_inv h
    simp only [Rd.give] at h
    injection h with h; injection h with h _
    rw [← h, List.length_cons, many_len n r1 r2 l1 h1]
theorem atomR_len {bs r : List Int} {x : Tm × ByteArray × List Tm} (h : atomR bs = .ok (x, r)) : x.2.2.length ≤ 8 := by
  obtain ⟨t, r1, _, h⟩ := then_inv h
  obtain ⟨n, r2, _, h⟩ := then_inv h
  obtain ⟨b, r3, _, h⟩ := then_inv h
  obtain ⟨_, r4, _, h⟩ := then_inv h
  obtain ⟨k, r5, hk, h⟩ := then_inv h
  obtain ⟨l, r6, hl, h⟩ := then_inv h
  simp only [Rd.give] at h
  injection h with h; injection h with h _
  rw [← h]
  simp only
  rw [many_len _ _ _ _ hl]
  obtain ⟨m, r7, _, hk⟩ := then_inv hk
  obtain ⟨_, r8, hn, hk⟩ := then_inv hk
  simp only [Rd.give] at hk
  injection hk with hk; injection hk with hk _
  subst hk
  unfold needR at hn
  split at hn
  · rename_i hc
    simp at hc
    omega
  · cases hn
theorem readRes_len (bs : List Int) : (readRes (atomR bs)).1.2.2.length < smallN := by
  cases h : atomR bs with
  | error e => simp [readRes, smallN]
  | ok p =>
    obtain ⟨x, r⟩ := p
    have := atomR_len h
    cases r with
    | nil => simp only [readRes, smallN]; omega
    | cons a r => simp [readRes, smallN]
theorem lent_reads {W : World} {base : Nat} {ok : Nat → Prop} {g c : Nat} {bs : List Int} (h : Bt W base ok (.slice (some ⟨g, 0, none⟩) (bs.length + 3) c) (bs ++ [91, 92, 93])) : ReadsInt W .u8 (some ⟨g, 0, none⟩) bs.length bs := by
  have hI : ReadsInt W .u8 (some ⟨g, 0, none⟩) (bs ++ [91, 92, 93]).length (bs ++ [91, 92, 93]) := readsInt_of.2 (Kd.reads_of_C (enc := Value.int .u8) (d := (0 : Int)) (h1 := fun _ => rfl) (R_C' h))
  have := hI.take_ bs.length (by simp)
  simpa using this
set_option maxHeartbeats 8000000 in
set_option maxRecDepth 100000 in
theorem codecAtoms_calls (t : Tm) (nm : ByteArray) (l : List Tm) (A0 : Option Addr) (c0 : Nat) (bs : List Int) (A1 : Option Addr) (c1 : Nat) (w : World) (hC0 : Kd.C k23 w A0 l.length l) (hc0 : l.length ≤ c0) (hR1 : ReadsInt w .u8 A1 bs.length bs) (hc1 : bs.length ≤ c1) (hby : isBytes bs) (ot : okT t = true) (ol : l.all okT = true) (hLn : Laid2 w) (hLb : Laid1 w) (ll : l.length < smallN) (lb : bs.length < smallN) (hk : costA t nm l < 140737488355328) :
    Calls Tryd.prog 3 #[.agg #[.int .i64 t.f0, .int .i64 t.f1, .string t.f2, .string nm, .slice A0 l.length c0], .slice A1 bs.length c1] w fun e w' => e = .returned (.bool true) ∧ Below w.heap.size w w' := by
  have hu26 := Tryd.underlying26
  have HC0 := Aside0.mk hC0
  have HCC0 := Aside0.mk hc0
  have HR1 := Aside0.mk hR1
  have HCC1 := Aside0.mk hc1
  have HLN := Aside0.mk hLn
  have HLB := Aside0.mk hLb
  have HLL := Aside0.mk ll
  have HL1 := Aside0.mk lb
  have HK := Aside0.mk hk
  have HOL := Aside0.mk ol
  obtain ⟨r, hr⟩ : ∃ r, codecAtom t nm l = r := ⟨_, rfl⟩
  obtain ⟨q, hq⟩ : ∃ q, readRes (atomR bs) = q := ⟨_, rfl⟩
  have HAT := Aside0.mk (show ∀ W A c, Kd.C k23 W A l.length l → l.length ≤ c → Laid2 W → Calls Tryd.prog 7 #[.agg #[.int .i64 t.f0, .int .i64 t.f1, .string t.f2, .string nm, .slice A l.length c]] W (Wrote W r) from fun W A c h1 h2 h3 => by rw [← hr]; exact atom_calls t nm A c l W h1 h2 ol h3 ll hk)
  have HRF := Aside0.mk (show hearsayref06_Atom.f 1100 t.f0 t.f1 t.f2 nm l = some (r.1, r.2) by rw [rAtom_f t nm l 1100 (Nat.le_refl _), hr])
  have HRA := Aside0.mk (show ∀ W A c, ReadsInt W .u8 A bs.length bs → bs.length ≤ c → Laid2 W → Calls Tryd.prog 11 #[.slice A bs.length c] W (ReadA W q) from fun W A c h1 h2 h3 => by rw [← hq]; exact readAtom_calls W A c bs h1 h2 hby h3)
  have HRB := Aside0.mk (show ∀ W A c, ReadsInt W .u8 A bs.length bs → bs.length ≤ c → Calls Tryd.prog 12 #[.slice A bs.length c] W (ReadA W q) from fun W A c h1 h2 => by rw [← hq]; exact dreadAtom_calls W A c bs h1 h2 hby)
  have HQL := Aside0.mk (show q.1.2.2.length < smallN by rw [← hq]; exact readRes_len bs)
  clear hC0 hc0 hR1 hc1 hLn hLb ll lb hk hr hq hby ot ol
  obtain ⟨rb, re⟩ := r
  obtain ⟨⟨qt, qn, ql⟩, qe⟩ := q
  dsimp only at HRF HQL
  go_enter Tryd.func3, Tryd.ntmps3
  go_wp2_with ((with_reducible refine gate_dst (N := 2) rfl ?_); refine box_event ?hg (N := 2) ?hd (cs := #[.int .i64 t.f0, .int .i64 t.f1, .string t.f2, .string nm, .slice A0 l.length c0]) (t := 26) ?hr ?_; (case hd => rfl); (case hg => rfl); (case hr => first | (go_simp; done) | (go_simp; rfl)); intro b2 hb2 w1 hbox hb; have B2 := Aside0.mk hbox; have HB1 := Aside0.mk hb; clear hb2 hbox hb; have q20 := (blk_cell B2.out 0).trans rfl; have q21 := (blk_cell B2.out 1).trans rfl; have q22 := (blk_cell B2.out 2).trans rfl; have q23 := (blk_cell B2.out 3).trans rfl; have q24 := (blk_cell B2.out 4).trans rfl)
  refine (lendAtom_calls t nm A0 c0 l _ (Kd.C_below HC0.out HB1.out) HCC0.out (Laid1.up HLB.out HB1.out) HLL.out).mono ?_
  rintro e w2 ⟨g, cg, rfl, hO, hb⟩
  replace B2 := Aside0.mk (blk_below B2.out hb)
  have HB2 := Aside0.mk (below_step HB1.out hb)
  have HO := Aside0.mk (R_under hO)
  clear hO hb q20 q21 q22 q23 q24
  go_wp2_with ((with_reducible refine gate_dst (N := 5) rfl ?_); refine box_event ?hg (N := 5) ?hd (cs := #[.int .i64 0, .int .i64 0, .string (⟨#[]⟩ : ByteArray), .string (⟨#[]⟩ : ByteArray), .slice none 0 0]) (t := 26) ?hr ?_; (case hd => rfl); (case hg => rfl); (case hr => first | (go_simp; done) | (go_simp; rfl)); intro b5 hb5 w3 hbox hb; have B5 := Aside0.mk hbox; have HB3 := Aside0.mk (below_step HB2.out hb); replace HO := Aside0.mk (show Kd.R k23 23 w3 w1.heap.size (fun k => k < b5) (.slice (some ⟨g, 0, none⟩) (l.length + 1) cg) (l ++ [behindT]) by rw [hb5]; exact Kd.R_below HO.out hb); have N25 := Aside0.mk (show b2 < b5 by have := blk_lt B2.out; omega); have G5 := Aside0.mk (show w.heap.size ≤ b5 by have := HB2.out.size; omega); replace B2 := Aside0.mk (blk_below B2.out hb); clear hb5 hbox hb; have q50 := (blk_cell B5.out 0).trans rfl; have zq50 := blk_frozen B5.out 0; have q51 := (blk_cell B5.out 1).trans rfl; have zq51 := blk_frozen B5.out 1; have q52 := (blk_cell B5.out 2).trans rfl; have zq52 := blk_frozen B5.out 2; have q53 := (blk_cell B5.out 3).trans rfl; have zq53 := blk_frozen B5.out 3; have q54 := (blk_cell B5.out 4).trans rfl; have zq54 := blk_frozen B5.out 4)
  have HB4 := Aside0.mk (put5_below HB3.out G5.out t nm (.slice (some ⟨g, 0, none⟩) l.length cg))
  replace HO := Aside0.mk (put5_R HO.out (fun k hk => Nat.ne_of_lt hk) t nm (.slice (some ⟨g, 0, none⟩) l.length cg))
  replace B5 := Aside0.mk (show (put5 w3 b5 t nm (.slice (some ⟨g, 0, none⟩) l.length cg)).heap[b5]? = some (.cells #[.int .i64 t.f0, .int .i64 t.f1, .string t.f2, .string nm, .slice (some ⟨g, 0, none⟩) l.length cg] 26 (0, 0)) from blk5 B5.out)
  replace B2 := Aside0.mk (show (put5 w3 b5 t nm (.slice (some ⟨g, 0, none⟩) l.length cg)).heap[b2]? = some (.cells #[.int .i64 t.f0, .int .i64 t.f1, .string t.f2, .string nm, .slice A0 l.length c0] 26 (0, 0)) from far5 B2.out (Nat.ne_of_lt N25.out))
  clear q50 zq50 q51 zq51 q52 zq52 q53 zq53 q54 zq54
  refine (HAT.out (put5 w3 b5 t nm (.slice (some ⟨g, 0, none⟩) l.length cg)) (some ⟨g, 0, none⟩) cg (C_front (R_C' HO.out)) (by have := R_room HO.out (by simp); simp at this; omega) (Laid2.up HLN.out HB4.out)).mono ?_
  rintro e w4 ⟨⟨v4, rfl, hv⟩, hb⟩
  obtain ⟨A4, c4, rfl⟩ := Kd.R_slice hv
  replace B2 := Aside0.mk (blk_below B2.out hb)
  replace B5 := Aside0.mk (blk_below B5.out hb)
  replace HO := Aside0.mk (Kd.R_below HO.out hb)
  have HB5 := Aside0.mk (below_step HB4.out hb)
  have HV4 : Aside0 (ReadsInt w4 .u8 A4 rb.length rb) := ⟨(readsInt_of.2 (Kd.reads_of_C (enc := Value.int .u8) (d := (0 : Int)) (h1 := fun _ => rfl) (R_C' hv)))⟩
  clear hv hb
  have q20 := (blk_cell B2.out 0).trans rfl
  have q21 := (blk_cell B2.out 1).trans rfl
  have q22 := (blk_cell B2.out 2).trans rfl
  have q23 := (blk_cell B2.out 3).trans rfl
  have q24 := (blk_cell B2.out 4).trans rfl
  go_wp2_with (go_at_call 8; (with_reducible refine (hearsayref06_Atom.calls 1100 t.f0 t.f1 t.f2 nm A0 c0 l rb re _ (Kd.C_below HC0.out HB5.out) HCC0.out HRF.out).mono ?_); rintro e w5 ⟨v5, rfl, hv, hb⟩; obtain ⟨A5, c5, rfl⟩ := Kd.R_slice hv; clear q20 q21 q22 q23 q24; replace B2 := Aside0.mk (blk_below B2.out hb); replace B5 := Aside0.mk (blk_below B5.out hb); replace HO := Aside0.mk (Kd.R_below HO.out hb); have HB6 := Aside0.mk (below_step HB5.out hb); have hs4 := string_of_reads (P := Tryd.prog) (src := 27) (dst := 9) (c := c4) Tryd.underlying27 Tryd.underlying5 Tryd.underlying9 (HV4.out.below hb); have hs5 := string_of_reads (P := Tryd.prog) (src := 27) (dst := 9) (c := c5) Tryd.underlying27 Tryd.underlying5 Tryd.underlying9 (readsInt_of.2 (Kd.reads_of_C (enc := Value.int .u8) (d := (0 : Int)) (h1 := fun _ => rfl) (R_C' hv))); clear hv hb HV4; have q20 := (blk_cell B2.out 0).trans rfl; have q21 := (blk_cell B2.out 1).trans rfl; have q22 := (blk_cell B2.out 2).trans rfl; have q23 := (blk_cell B2.out 3).trans rfl; have q24 := (blk_cell B2.out 4).trans rfl; have q50 := (blk_cell B5.out 0).trans rfl; have q51 := (blk_cell B5.out 1).trans rfl; have q52 := (blk_cell B5.out 2).trans rfl; have q53 := (blk_cell B5.out 3).trans rfl; have q54 := (blk_cell B5.out 4).trans rfl)
  go_wp2_with (go_at_call 9; (with_reducible refine (keptAtom_calls t nm g cg A0 c0 l _ _ _ HO.out (Kd.C_below HC0.out HB6.out) HCC0.out (Laid1.up HLB.out HB6.out) HLL.out).mono ?_); rintro e w6 ⟨rfl, hb⟩; have HB7 := Aside0.mk (below_step HB6.out hb); clear hb hs4 hs5 B2 B5 HO q20 q21 q22 q23 q24 q50 q51 q52 q53 q54)
  refine (lend_calls A1 c1 bs _ (HR1.out.below HB7.out) HCC1.out HL1.out).mono ?_
  rintro e w7 ⟨g7, c7, rfl, hv, hb⟩
  have HB8 := Aside0.mk (below_step HB7.out hb)
  have HV := Aside0.mk (R_under hv)
  clear hv hb
  go_wp2_with (go_at_call 11; (with_reducible refine (HRA.out _ _ _ (lent_reads HV.out) (by have := R_room HV.out (by simp); simp at this; omega) (Laid2.up HLN.out HB8.out)).mono ?_); rintro e w8 ⟨⟨v, rfl, ⟨sl, rfl, hL⟩⟩, hb⟩; obtain ⟨Ap, cp, rfl⟩ := Kd.R_slice hL; have HP := Aside0.mk (R_under (show Kd.R k23 23 w8 w7.heap.size (fun k => w7.heap.size ≤ k) (.slice Ap ql.length cp) ql from hL)); replace HV := Aside0.mk (Kd.R_below HV.out hb); have HB9 := Aside0.mk (below_step HB8.out hb); clear hL hb)
  have B11 := Aside0.mk (heap_alloc_new w8 (.cells #[.int .i64 qt.f0, .int .i64 qt.f1, .string qt.f2, .string qn, .slice Ap ql.length cp] 26))
  replace HB9 := Aside0.mk (below_alloc HB9.out (.cells #[.int .i64 qt.f0, .int .i64 qt.f1, .string qt.f2, .string qn, .slice Ap ql.length cp] 26))
  replace HP := Aside0.mk (Kd.R_alloc HP.out (.cells #[.int .i64 qt.f0, .int .i64 qt.f1, .string qt.f2, .string qn, .slice Ap ql.length cp] 26))
  replace HV := Aside0.mk (Kd.R_alloc HV.out (.cells #[.int .i64 qt.f0, .int .i64 qt.f1, .string qt.f2, .string qn, .slice Ap ql.length cp] 26))
  refine (HRB.out _ A1 c1 (HR1.out.below HB9.out) HCC1.out).mono ?_
  rintro e w10 ⟨⟨v, rfl, ⟨sl, rfl, hL⟩⟩, hb⟩
  obtain ⟨Aq, cq, rfl⟩ := Kd.R_slice hL
  have HQ := Aside0.mk (show Kd.R k23 23 w10 _ _ (.slice Aq ql.length cq) ql from hL)
  replace HP := Aside0.mk (Kd.R_below HP.out hb)
  replace HV := Aside0.mk (Kd.R_below HV.out hb)
  replace B11 := Aside0.mk (blk_below B11.out hb)
  have HB10 := Aside0.mk (below_step HB9.out hb)
  clear hL hb
  obtain ⟨b11, hb11⟩ : ∃ b, w8.heap.size = b := ⟨_, rfl⟩
  rw [hb11] at B11
  rw [hb11]
  have L11 := Aside0.mk (blk_lt B11.out)
  have B11n := Aside0.mk (blk_alloc B11.out (.cells #[.int .i64 qt.f0, .int .i64 qt.f1, .string qt.f2, .string qn, .slice Aq ql.length cq] 26))
  have B13n := Aside0.mk (heap_alloc_new w10 (.cells #[.int .i64 qt.f0, .int .i64 qt.f1, .string qt.f2, .string qn, .slice Aq ql.length cq] 26))
  have q10 := (blk_cell B11n.out 0).trans rfl
  have q11 := (blk_cell B11n.out 1).trans rfl
  have q12 := (blk_cell B11n.out 2).trans rfl
  have q13 := (blk_cell B11n.out 3).trans rfl
  have q14 := (blk_cell B11n.out 4).trans rfl
  have q30 := (blk_cell B13n.out 0).trans rfl
  have q31 := (blk_cell B13n.out 1).trans rfl
  have q32 := (blk_cell B13n.out 2).trans rfl
  have q33 := (blk_cell B13n.out 3).trans rfl
  have q34 := (blk_cell B13n.out 4).trans rfl
  go_wp2_with (first | (go_at_call 13; (with_reducible refine (hearsayref03_SameAtom.calls (ql.length + 1) qt.f0 qt.f1 qt.f2 qn Ap cp ql qt.f0 qt.f1 qt.f2 qn Aq cq ql true _ (R_C' (Kd.R_alloc HP.out _)) (R_cap HP.out) (R_C' (Kd.R_alloc HQ.out _)) (R_cap HQ.out) (same_atom qt qn ql HQL.out _ (Nat.le_refl _))).mono ?_); rintro e w12 ⟨rfl, hb⟩; replace HV := Aside0.mk (Kd.R_below (Kd.R_alloc HV.out _) hb); have HB12 := Aside0.mk (below_step (below_alloc HB10.out _) hb); clear hb q10 q11 q12 q13 q14 q30 q31 q32 q33 q34) | (go_at_call 14; (with_reducible refine (kept_calls g7 c7 A1 c1 bs _ _ _ HV.out (HR1.out.below HB12.out) HCC1.out HL1.out).mono ?_); rintro e w13 ⟨rfl, hb⟩; have HB13 := Aside0.mk (below_step HB12.out hb); clear hb) | (go_at_call 15; (with_reducible refine (first_calls _ (Laid2.up HLN.out HB13.out)).mono ?_); rintro e w14 ⟨rfl, hb⟩; have HB14 := Aside0.mk (below_step HB13.out hb); clear hb))
  go_ret
  exact ⟨by first | rfl | simp, HB14.out⟩
end Go.Proofs.YtdplpcedfkfajaaDoor.T
