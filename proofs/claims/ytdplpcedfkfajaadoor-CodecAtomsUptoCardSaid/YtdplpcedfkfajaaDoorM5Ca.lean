/- GCTerm; GCMany; T1: texts of this claim, laid together. -/
import Derived.Test.YtdplpcedfkfajaaDoorM4Ca
import Derived.Test.YtdplpcedfkfajaaDoorM0Ca
/- The walks of codec's reader of terms. -/
set_option linter.unusedVariables false
set_option linter.unusedSimpArgs false
namespace Go.Proofs.YtdplpcedfkfajaaDoor.T
open Go.RowKit Go.Proofs.YtdplpcedfkfajaaDoorW.PrintWords Go.Proofs.YtdplpcedfkfajaaDoorW.PrintLast
/-- Where a reading walk stands. -/
structure RW (w0 w W : World) (rb : Nat) (rest : List Int) : Prop where
  st : Rst w0 W rb rest
  keep : KeepBut w W rb none
  lt : rb < w.heap.size
section
variable {w0 w W W' : World} {rb : Nat} {rest rest' : List Int}
theorem RW.start (h : Rst w0 w rb rest) : RW w0 w w rb rest := ⟨h, KeepBut.refl _ _ _, h.lt⟩
theorem RW.up (h : RW w0 w W rb rest) (hb : Below W.heap.size W W') : RW w0 w W' rb rest := by
  obtain ⟨A, c, hk, hc, hr⟩ := h.st.ex
  exact ⟨⟨⟨A, c, blk_below hk hb, hc, hr⟩, below_then h.st.below h.st.below.size hb, h.st.at_⟩, h.keep.trans (KeepBut.of_below hb rb none) (.inl rfl), h.lt⟩
theorem RW.set (h : RW w0 w W rb rest) {g : Nat} (hg : w.heap.size ≤ g) (j : Nat) (u : Value) : RW w0 w (W.setCell ⟨g, j, none⟩ u) rb rest := by
  obtain ⟨A, c, hk, hc, hr⟩ := h.st.ex
  have hl := h.lt
  have ha := h.st.at_
  exact ⟨⟨⟨A, c, blk_far hk (p := ⟨g, j, none⟩) (show rb ≠ g by omega) u, hc, hr⟩, h.st.below.setCell (show w0.heap.size ≤ g by omega) _, ha⟩, keep_far h.keep (p := ⟨g, j, none⟩) hg u, hl⟩
theorem RW.call (h : RW w0 w W rb rest) (hs : Rst w0 W' rb rest') (hk : KeepBut W W' rb none) : RW w0 w W' rb rest' := ⟨hs, h.keep.trans hk (.inl rfl), h.lt⟩
theorem RW.ups (h : RW w0 w W rb rest) (hk : KeepBut W W' rb none) : KeepBut w W' rb none := h.keep.trans hk (.inl rfl)
theorem RW.blk (h : RW w0 w W rb rest) {g : Nat} {o : Obj} (hb : W.heap[g]? = some o) (hg : w.heap.size ≤ g) (hk : KeepBut W W' rb none) : W'.heap[g]? = some o := hk.blk hb (by have := h.lt; omega) (by simp)
theorem RW.set3 (h : RW w0 w W rb rest) {g : Nat} (hg : w.heap.size ≤ g) {x y z : Value} : RW w0 w (((W.setCell ⟨g, 0, none⟩ x).setCell ⟨g, 1, none⟩ y).setCell ⟨g, 2, none⟩ z) rb rest := ((h.set hg 0 x).set hg 1 y).set hg 2 z
theorem blk3 {g : Nat} {a b c x y z : Value} {t : TypeId} (hb : W.heap[g]? = some (.cells #[a, b, c] t (0, 0))) : (((W.setCell ⟨g, 0, none⟩ x).setCell ⟨g, 1, none⟩ y).setCell ⟨g, 2, none⟩ z).heap[g]? = some (.cells #[x, y, z] t (0, 0)) :=
  blk_set (blk_set (blk_set hb 0 x) 1 y) 2 z
theorem far3 {g k : Nat} {o : Array Value} {t : TypeId} {x y z : Value} (hb : W.heap[k]? = some (.cells o t (0, 0))) (hne : k ≠ g) : (((W.setCell ⟨g, 0, none⟩ x).setCell ⟨g, 1, none⟩ y).setCell ⟨g, 2, none⟩ z).heap[k]? = some (.cells o t (0, 0)) :=
  blk_far (blk_far (blk_far hb (p := ⟨g, 0, none⟩) hne x) (p := ⟨g, 1, none⟩) hne y) (p := ⟨g, 2, none⟩) hne z
end
/-- A term that was read. -/
def ValT (x : Tm) (_ : World) (v : Value) : Prop := v = .agg #[.int .i64 x.f0, .int .i64 x.f1, .string x.f2]
theorem termR_err {K L : Int} {rest : List Int} {c : Int} (h : numR 1 rest = .error c) : termR K L rest = .error c := by unfold termR Rd.then; rw [h]
theorem termR_bad {K L : Int} {rest r1 : List Int} {n : Int} (h : numR 1 rest = .ok (n, r1)) (hk : kindOk K n = false) : termR K L rest = .error 63 := by
  unfold termR Rd.then; rw [h]; simp [needR, hk, Rd.fail]
theorem termR_go {K L : Int} {rest r1 : List Int} {n : Int} (h : numR 1 rest = .ok (n, r1)) (hk : kindOk K n = true) : termR K L rest = (if n = 1 then (numR 8).then fun n => Rd.give (⟨1, i64 n, ⟨#[]⟩⟩ : Tm)
  else if n = 3 then natR.then fun n => Rd.give ⟨3, n, ⟨#[]⟩⟩
  else if n = 2 then (smallR L 64).then fun n => (takeR n.toNat).then fun b => Rd.give ⟨2, 0, strOf b⟩
  else Rd.give ⟨n, 0, ⟨#[]⟩⟩) r1 := by
  conv => lhs; unfold termR Rd.then
  rw [h]
  simp only [needR, hk, if_true]
  rfl
theorem Rd.then_ok {α β : Type} {r : Rd α} {f : α → Rd β} {l l' : List Int} {x : α} (h : r l = .ok (x, l')) : (r.then f) l = f x l' := by unfold Rd.then; rw [h]
theorem Rd.then_err {α β : Type} {r : Rd α} {f : α → Rd β} {l : List Int} {c : Int} (h : r l = .error c) : (r.then f) l = .error c := by unfold Rd.then; rw [h]
theorem smallR_ok {lo hi n : Int} {rest rest' : List Int} (hby : isBytes rest) (h : smallR lo hi rest = .ok (n, rest')) : lo ≤ n ∧ n ≤ hi ∧ 0 ≤ n ∧ isBytes rest' := by
  unfold smallR Rd.then at h
  cases hn : numR 1 rest with
  | error c => rw [hn] at h; cases h
  | ok p =>
    obtain ⟨m, r⟩ := p
    rw [hn] at h
    obtain ⟨h0, h1, h2⟩ := numR_ok hby hn
    simp only [needR] at h
    by_cases hb : (decide (lo ≤ m) && decide (m ≤ hi)) = true
    · rw [if_pos hb] at h
      simp only [Rd.give] at h
      injection h with h
      injection h with h3 h4
      subst h3 h4
      simp only [Bool.and_eq_true, decide_eq_true_eq] at hb
      exact ⟨hb.1, hb.2, h0, h2⟩
    · rw [if_neg hb] at h; cases h
theorem natR_ok {n : Int} {rest rest' : List Int} (hby : isBytes rest) (h : natR rest = .ok (n, rest')) : 0 ≤ n ∧ n < 9223372036854775808 ∧ isBytes rest' := by
  unfold natR Rd.then at h
  cases hn : numR 8 rest with
  | error c => rw [hn] at h; cases h
  | ok p =>
    obtain ⟨m, r⟩ := p
    rw [hn] at h
    obtain ⟨h0, h1, h2⟩ := numR_ok hby hn
    simp only [needR] at h
    by_cases hb : decide (m < 9223372036854775808) = true
    · rw [if_pos hb] at h
      simp only [Rd.give] at h
      injection h with h
      injection h with h3 h4
      subst h3 h4
      exact ⟨h0, of_decide_eq_true hb, h2⟩
    · rw [if_neg hb] at h; cases h
theorem number_calls1 (w0 w : World) (rb : Nat) (rest : List Int) (hby : isBytes rest) (h : Rst w0 w rb rest) :
    Calls Tryd.prog 96 #[.pointer (some ⟨rb, 0, none⟩), .int .i64 1] w (Reads w0 w rb (numR 1 rest) (ValI .u64)) := number_calls w0 w rb rest 1 (by omega) hby h
theorem number_calls8 (w0 w : World) (rb : Nat) (rest : List Int) (hby : isBytes rest) (h : Rst w0 w rb rest) :
    Calls Tryd.prog 96 #[.pointer (some ⟨rb, 0, none⟩), .int .i64 8] w (Reads w0 w rb (numR 8 rest) (ValI .u64)) := number_calls w0 w rb rest 8 (by omega) hby h
theorem far1 {W : World} {g k j : Nat} {o : Array Value} {t : TypeId} {x : Value} (hb : W.heap[k]? = some (.cells o t (0, 0))) (hne : k ≠ g) : (W.setCell ⟨g, j, none⟩ x).heap[k]? = some (.cells o t (0, 0)) := blk_far hb (p := ⟨g, j, none⟩) hne x
set_option maxHeartbeats 8000000 in
set_option maxRecDepth 100000 in
theorem term_calls13 (w0 w : World) (rb : Nat) (rest : List Int) (hby : isBytes rest) (h : Rst w0 w rb rest) :
    Calls Tryd.prog 67 #[.pointer (some ⟨rb, 0, none⟩), .int .i64 13, .int .i64 1] w (Reads w0 w rb (termR 13 1 rest) ValT) := by
  have hu23 := Tryd.underlying23
  have HS := Aside0.mk (RW.start h)
  clear h
  cases hn : numR 1 rest with
  | error c =>
    rw [termR_err hn]
    have HN1 := Aside0.mk (show ∀ e w' W, Reads w0 W rb (numR 1 rest) (ValI .u64) e w' → e = gaveUp c ∧ KeepBut W w' rb none ∧ Below w0.heap.size w0 w' from fun e w' W hr => by rw [hn] at hr; exact hr.nov)
    clear hn
    go_enter Tryd.func67, Tryd.ntmps67
    go_wp2_with (first
      | ((with_reducible refine gate_dst (N := 6) rfl ?_); refine box_event ?hg (N := 6) ?hd (cs := #[.int .i64 0, .int .i64 0, .string (⟨#[]⟩ : ByteArray)]) (t := 23) ?hr ?_; (case hd => rfl); (case hg => rfl); (case hr => first | (go_simp; done) | (go_simp; rfl)); intro b6 hb6 wb6 hbox hb; have H1 := Aside0.mk (HS.out.up hb); have B6 := Aside0.mk hbox; have G6 := Aside0.mk (show w.heap.size ≤ b6 by have := (HS.out.keep).1; omega); have LT6 := Aside0.mk (blk_lt hbox); clear hb6 hbox hb; have q60 := (blk_cell B6.out 0).trans rfl; have q61 := (blk_cell B6.out 1).trans rfl; have q62 := (blk_cell B6.out 2).trans rfl; have z60 := blk_frozen B6.out 0; have z61 := blk_frozen B6.out 1; have z62 := blk_frozen B6.out 2)
      | (go_at_call 96; (with_reducible refine ((number_calls1 w0 _ rb rest hby H1.out.st).mono (fun e w' hr => (HN1.out e w' _ hr))).mono ?_); rintro e w2 ⟨rfl, hk, hb⟩; have HK := Aside0.mk (H1.out.ups hk); have HB := Aside0.mk hb; clear hk hb))
    exact ⟨rfl, Reads.upped HK.out HB.out⟩
  | ok p =>
    obtain ⟨n, r1⟩ := p
    have HN1 := Aside0.mk (show ∀ e w' W, Reads w0 W rb (numR 1 rest) (ValI .u64) e w' → ∃ v, e = .returned v ∧ ValI .u64 n w' v ∧ Rst w0 w' rb r1 ∧ KeepBut W w' rb none from fun e w' W hr => by rw [hn] at hr; exact hr.okv)
    obtain ⟨n0, n1, hby1⟩ := numR_ok hby hn
    by_cases h0 : n = 0
    · subst h0
      clear n0 n1
      have hbit : bits BinOp.and IntKind.i64 13 1 = 1 := by decide
      have er : termR 13 1 rest = .ok (⟨0, 0, ⟨#[]⟩⟩, r1) := by rw [termR_go hn (by decide)]; rfl
      rw [er]
      clear hn er
      go_enter Tryd.func67, Tryd.ntmps67
      go_wp2_with (first
        | ((with_reducible refine gate_dst (N := 6) rfl ?_); refine box_event ?hg (N := 6) ?hd (cs := #[.int .i64 0, .int .i64 0, .string (⟨#[]⟩ : ByteArray)]) (t := 23) ?hr ?_; (case hd => rfl); (case hg => rfl); (case hr => first | (go_simp; done) | (go_simp; rfl)); intro b6 hb6 wb6 hbox hb; have H1 := Aside0.mk (HS.out.up hb); have B6 := Aside0.mk hbox; have G6 := Aside0.mk (show w.heap.size ≤ b6 by have := (HS.out.keep).1; omega); have LT6 := Aside0.mk (blk_lt hbox); clear hb6 hbox hb; have q60 := (blk_cell B6.out 0).trans rfl; have q61 := (blk_cell B6.out 1).trans rfl; have q62 := (blk_cell B6.out 2).trans rfl; have z60 := blk_frozen B6.out 0; have z61 := blk_frozen B6.out 1; have z62 := blk_frozen B6.out 2)
        | (go_at_call 96; (with_reducible refine ((number_calls1 w0 _ rb rest hby H1.out.st).mono (fun e w' hr => (HN1.out e w' _ hr))).mono ?_); rintro e w2 ⟨v, rfl, rfl, hs, hk⟩; replace B6 := Aside0.mk (H1.out.blk B6.out G6.out hk); have H2 := Aside0.mk (H1.out.call hs hk); clear hs hk q60 z60 q61 z61 q62 z62; have q60 := (blk_cell B6.out 0).trans rfl; have z60 := blk_frozen B6.out 0; have q61 := (blk_cell B6.out 1).trans rfl; have z61 := blk_frozen B6.out 1; have q62 := (blk_cell B6.out 2).trans rfl; have z62 := blk_frozen B6.out 2)
        | ((with_reducible refine gate_dst (N := 7) rfl ?_); refine box_event ?hg (N := 7) ?hd (cs := #[.int .i64 0, .int .i64 0, .string (⟨#[]⟩ : ByteArray)]) (t := 23) ?hr ?_; (case hd => rfl); (case hg => rfl); (case hr => first | (go_simp; done) | (go_simp; rfl)); intro b7 hb7 wb7 hbox hb; have H3 := Aside0.mk (H2.out.up hb); have B7 := Aside0.mk hbox; have G7 := Aside0.mk (show w.heap.size ≤ b7 by have := (H2.out.keep).1; omega); have LT7 := Aside0.mk (blk_lt hbox); have N7 := Aside0.mk (show b6 ≠ b7 by have := blk_lt B6.out; omega); replace B6 := Aside0.mk (blk_below B6.out hb); clear hb7 hbox hb; have q70 := (blk_cell B7.out 0).trans rfl; have q71 := (blk_cell B7.out 1).trans rfl; have q72 := (blk_cell B7.out 2).trans rfl; have z70 := blk_frozen B7.out 0; have z71 := blk_frozen B7.out 1; have z72 := blk_frozen B7.out 2)
        | (go_at_call 66; (with_reducible refine (need_true 63 _).mono ?_); rintro e w4 ⟨rfl, hw⟩; have H4 : Aside0 (RW w0 w w4 rb r1) := ⟨by rw [hw]; exact H3.out.set3 G7.out⟩; replace B6 : Aside0 (w4.heap[b6]? = some (.cells #[.int .i64 0, .int .i64 0, .string (⟨#[]⟩ : ByteArray)] 23 (0, 0))) := ⟨by rw [hw]; exact far3 B6.out N7.out⟩; replace B7 : Aside0 (w4.heap[b7]? = some (.cells #[.int .i64 0, .int .i64 0, .string (⟨#[]⟩ : ByteArray)] 23 (0, 0))) := ⟨by rw [hw]; exact blk3 B7.out⟩; clear hw q60 z60 q61 z61 q62 z62 q70 z70 q71 z71 q72 z72; have q60 := (blk_cell B6.out 0).trans rfl; have z60 := blk_frozen B6.out 0; have q61 := (blk_cell B6.out 1).trans rfl; have z61 := blk_frozen B6.out 1; have q62 := (blk_cell B6.out 2).trans rfl; have z62 := blk_frozen B6.out 2; have q70 := (blk_cell B7.out 0).trans rfl; have z70 := blk_frozen B7.out 0; have q71 := (blk_cell B7.out 1).trans rfl; have z71 := blk_frozen B7.out 1; have q72 := (blk_cell B7.out 2).trans rfl; have z72 := blk_frozen B7.out 2))
      refine bodyPost_ret (results_cell_row rfl _ _ b6 23 #[(.int .i64 0), (.int .i64 0), (.string (⟨#[]⟩ : ByteArray))] (0, 0) _ rfl (blk3 (B6.out)) Tryd.underlying23 rfl (by kernel_rfl)) rfl ?_
      exact Reads.give (H4.out.set3 G6.out).keep (H4.out.set3 G6.out).st rfl
    by_cases h1 : n = 1
    · subst h1
      clear n0 n1
      have hbit : bits BinOp.and IntKind.i64 6 1 = 0 := by decide
      rw [termR_bad hn (by decide)]
      clear hn
      go_enter Tryd.func67, Tryd.ntmps67
      go_wp2_with (first
        | ((with_reducible refine gate_dst (N := 6) rfl ?_); refine box_event ?hg (N := 6) ?hd (cs := #[.int .i64 0, .int .i64 0, .string (⟨#[]⟩ : ByteArray)]) (t := 23) ?hr ?_; (case hd => rfl); (case hg => rfl); (case hr => first | (go_simp; done) | (go_simp; rfl)); intro b6 hb6 wb6 hbox hb; have H1 := Aside0.mk (HS.out.up hb); have B6 := Aside0.mk hbox; have G6 := Aside0.mk (show w.heap.size ≤ b6 by have := (HS.out.keep).1; omega); have LT6 := Aside0.mk (blk_lt hbox); clear hb6 hbox hb; have q60 := (blk_cell B6.out 0).trans rfl; have q61 := (blk_cell B6.out 1).trans rfl; have q62 := (blk_cell B6.out 2).trans rfl; have z60 := blk_frozen B6.out 0; have z61 := blk_frozen B6.out 1; have z62 := blk_frozen B6.out 2)
        | (go_at_call 96; (with_reducible refine ((number_calls1 w0 _ rb rest hby H1.out.st).mono (fun e w' hr => (HN1.out e w' _ hr))).mono ?_); rintro e w2 ⟨v, rfl, rfl, hs, hk⟩; replace B6 := Aside0.mk (H1.out.blk B6.out G6.out hk); have H2 := Aside0.mk (H1.out.call hs hk); clear hs hk q60 z60 q61 z61 q62 z62; have q60 := (blk_cell B6.out 0).trans rfl; have z60 := blk_frozen B6.out 0; have q61 := (blk_cell B6.out 1).trans rfl; have z61 := blk_frozen B6.out 1; have q62 := (blk_cell B6.out 2).trans rfl; have z62 := blk_frozen B6.out 2)
        | ((with_reducible refine gate_dst (N := 7) rfl ?_); refine box_event ?hg (N := 7) ?hd (cs := #[.int .i64 0, .int .i64 0, .string (⟨#[]⟩ : ByteArray)]) (t := 23) ?hr ?_; (case hd => rfl); (case hg => rfl); (case hr => first | (go_simp; done) | (go_simp; rfl)); intro b7 hb7 wb7 hbox hb; have H3 := Aside0.mk (H2.out.up hb); have B7 := Aside0.mk hbox; have G7 := Aside0.mk (show w.heap.size ≤ b7 by have := (H2.out.keep).1; omega); have LT7 := Aside0.mk (blk_lt hbox); have N7 := Aside0.mk (show b6 ≠ b7 by have := blk_lt B6.out; omega); replace B6 := Aside0.mk (blk_below B6.out hb); clear hb7 hbox hb; have q70 := (blk_cell B7.out 0).trans rfl; have q71 := (blk_cell B7.out 1).trans rfl; have q72 := (blk_cell B7.out 2).trans rfl; have z70 := blk_frozen B7.out 0; have z71 := blk_frozen B7.out 1; have z72 := blk_frozen B7.out 2)
        | (go_at_call 66; (with_reducible refine (need_false 63 _).mono ?_); rintro e w4 ⟨rfl, hw⟩; have H4 : Aside0 (RW w0 w w4 rb r1) := ⟨by rw [hw]; exact H3.out.set3 G7.out⟩; clear hw))
      exact ⟨rfl, Reads.upped H4.out.keep H4.out.st.below⟩
    by_cases h2 : n = 2
    · subst h2
      clear n0 n1
      have hbit : bits BinOp.and IntKind.i64 3 1 = 1 := by decide
      cases hm : smallR 1 64 r1 with
      | error c =>
        have er : termR 13 1 rest = .error c := by rw [termR_go hn (by decide), if_neg (by decide), if_neg (by decide), if_pos rfl, Rd.then_err hm]
        rw [er]
        have HN2 := Aside0.mk (show ∀ e w' W, Reads w0 W rb (smallR 1 64 r1) (ValI .i64) e w' → e = gaveUp c ∧ KeepBut W w' rb none ∧ Below w0.heap.size w0 w' from fun e w' W hr => by rw [hm] at hr; exact hr.nov)
        clear hn hm er
        go_enter Tryd.func67, Tryd.ntmps67
        go_wp2_with (first
          | ((with_reducible refine gate_dst (N := 6) rfl ?_); refine box_event ?hg (N := 6) ?hd (cs := #[.int .i64 0, .int .i64 0, .string (⟨#[]⟩ : ByteArray)]) (t := 23) ?hr ?_; (case hd => rfl); (case hg => rfl); (case hr => first | (go_simp; done) | (go_simp; rfl)); intro b6 hb6 wb6 hbox hb; have H1 := Aside0.mk (HS.out.up hb); have B6 := Aside0.mk hbox; have G6 := Aside0.mk (show w.heap.size ≤ b6 by have := (HS.out.keep).1; omega); have LT6 := Aside0.mk (blk_lt hbox); clear hb6 hbox hb; have q60 := (blk_cell B6.out 0).trans rfl; have q61 := (blk_cell B6.out 1).trans rfl; have q62 := (blk_cell B6.out 2).trans rfl; have z60 := blk_frozen B6.out 0; have z61 := blk_frozen B6.out 1; have z62 := blk_frozen B6.out 2)
          | (go_at_call 69; (with_reducible refine ((small_calls w0 _ rb r1 1 64 hby1 H4.out.st).mono (fun e w' hr => (HN2.out e w' _ hr))).mono ?_); rintro e w5 ⟨rfl, hk, hb⟩; have HK := Aside0.mk (H4.out.ups hk); have HB := Aside0.mk hb; clear hk hb)
          | (go_at_call 96; (with_reducible refine ((number_calls1 w0 _ rb rest hby H1.out.st).mono (fun e w' hr => (HN1.out e w' _ hr))).mono ?_); rintro e w2 ⟨v, rfl, rfl, hs, hk⟩; replace B6 := Aside0.mk (H1.out.blk B6.out G6.out hk); have H2 := Aside0.mk (H1.out.call hs hk); clear hs hk q60 z60 q61 z61 q62 z62; have q60 := (blk_cell B6.out 0).trans rfl; have z60 := blk_frozen B6.out 0; have q61 := (blk_cell B6.out 1).trans rfl; have z61 := blk_frozen B6.out 1; have q62 := (blk_cell B6.out 2).trans rfl; have z62 := blk_frozen B6.out 2)
          | ((with_reducible refine gate_dst (N := 7) rfl ?_); refine box_event ?hg (N := 7) ?hd (cs := #[.int .i64 0, .int .i64 0, .string (⟨#[]⟩ : ByteArray)]) (t := 23) ?hr ?_; (case hd => rfl); (case hg => rfl); (case hr => first | (go_simp; done) | (go_simp; rfl)); intro b7 hb7 wb7 hbox hb; have H3 := Aside0.mk (H2.out.up hb); have B7 := Aside0.mk hbox; have G7 := Aside0.mk (show w.heap.size ≤ b7 by have := (H2.out.keep).1; omega); have LT7 := Aside0.mk (blk_lt hbox); have N7 := Aside0.mk (show b6 ≠ b7 by have := blk_lt B6.out; omega); replace B6 := Aside0.mk (blk_below B6.out hb); clear hb7 hbox hb; have q70 := (blk_cell B7.out 0).trans rfl; have q71 := (blk_cell B7.out 1).trans rfl; have q72 := (blk_cell B7.out 2).trans rfl; have z70 := blk_frozen B7.out 0; have z71 := blk_frozen B7.out 1; have z72 := blk_frozen B7.out 2)
          | (go_at_call 66; (with_reducible refine (need_true 63 _).mono ?_); rintro e w4 ⟨rfl, hw⟩; have H4 : Aside0 (RW w0 w w4 rb r1) := ⟨by rw [hw]; exact H3.out.set3 G7.out⟩; replace B6 : Aside0 (w4.heap[b6]? = some (.cells #[.int .i64 0, .int .i64 0, .string (⟨#[]⟩ : ByteArray)] 23 (0, 0))) := ⟨by rw [hw]; exact far3 B6.out N7.out⟩; replace B7 : Aside0 (w4.heap[b7]? = some (.cells #[.int .i64 2, .int .i64 0, .string (⟨#[]⟩ : ByteArray)] 23 (0, 0))) := ⟨by rw [hw]; exact blk3 B7.out⟩; clear hw q60 z60 q61 z61 q62 z62 q70 z70 q71 z71 q72 z72; have q60 := (blk_cell B6.out 0).trans rfl; have z60 := blk_frozen B6.out 0; have q61 := (blk_cell B6.out 1).trans rfl; have z61 := blk_frozen B6.out 1; have q62 := (blk_cell B6.out 2).trans rfl; have z62 := blk_frozen B6.out 2; have q70 := (blk_cell B7.out 0).trans rfl; have z70 := blk_frozen B7.out 0; have q71 := (blk_cell B7.out 1).trans rfl; have z71 := blk_frozen B7.out 1; have q72 := (blk_cell B7.out 2).trans rfl; have z72 := blk_frozen B7.out 2))
        exact ⟨rfl, Reads.upped HK.out HB.out⟩
      | ok p =>
        obtain ⟨m, r2⟩ := p
        obtain ⟨m0, m1, m2, hby2⟩ := smallR_ok hby1 hm
        obtain ⟨m, rfl⟩ := Int.eq_ofNat_of_zero_le m2
        have HN2 := Aside0.mk (show ∀ e w' W, Reads w0 W rb (smallR 1 64 r1) (ValI .i64) e w' → ∃ v, e = .returned v ∧ ValI .i64 (m : Int) w' v ∧ Rst w0 w' rb r2 ∧ KeepBut W w' rb none from fun e w' W hr => by rw [hm] at hr; exact hr.okv)
        have HM := Aside0.mk (show m ≤ 4611686018427387904 by omega)
        cases hq : takeR m r2 with
        | error c =>
          have er : termR 13 1 rest = .error c := by rw [termR_go hn (by decide), if_neg (by decide), if_neg (by decide), if_pos rfl, Rd.then_ok hm, Int.toNat_natCast, Rd.then_err hq]
          rw [er]
          have HN3 := Aside0.mk (show ∀ e w' W, Reads w0 W rb (takeR m r2) (ValB w0) e w' → e = gaveUp c ∧ KeepBut W w' rb none ∧ Below w0.heap.size w0 w' from fun e w' W hr => by rw [hq] at hr; exact hr.nov)
          clear hn hm hq er m0 m1 m2
          go_enter Tryd.func67, Tryd.ntmps67
          go_wp2_with (first
            | ((with_reducible refine gate_dst (N := 6) rfl ?_); refine box_event ?hg (N := 6) ?hd (cs := #[.int .i64 0, .int .i64 0, .string (⟨#[]⟩ : ByteArray)]) (t := 23) ?hr ?_; (case hd => rfl); (case hg => rfl); (case hr => first | (go_simp; done) | (go_simp; rfl)); intro b6 hb6 wb6 hbox hb; have H1 := Aside0.mk (HS.out.up hb); have B6 := Aside0.mk hbox; have G6 := Aside0.mk (show w.heap.size ≤ b6 by have := (HS.out.keep).1; omega); have LT6 := Aside0.mk (blk_lt hbox); clear hb6 hbox hb; have q60 := (blk_cell B6.out 0).trans rfl; have q61 := (blk_cell B6.out 1).trans rfl; have q62 := (blk_cell B6.out 2).trans rfl; have z60 := blk_frozen B6.out 0; have z61 := blk_frozen B6.out 1; have z62 := blk_frozen B6.out 2)
            | (go_at_call 69; (with_reducible refine ((small_calls w0 _ rb r1 1 64 hby1 H4.out.st).mono (fun e w' hr => (HN2.out e w' _ hr))).mono ?_); rintro e w5 ⟨v, rfl, rfl, hs, hk⟩; have H5 := Aside0.mk (H4.out.call hs hk); clear hs hk)
            | (go_at_call 68; (with_reducible refine ((take_calls w0 _ rb r2 m HM.out H5.out.st).mono (fun e w' hr => (HN3.out e w' _ hr))).mono ?_); rintro e w6 ⟨rfl, hk, hb⟩; have HK := Aside0.mk (H5.out.ups hk); have HB := Aside0.mk hb; clear hk hb)
            | (go_at_call 96; (with_reducible refine ((number_calls1 w0 _ rb rest hby H1.out.st).mono (fun e w' hr => (HN1.out e w' _ hr))).mono ?_); rintro e w2 ⟨v, rfl, rfl, hs, hk⟩; replace B6 := Aside0.mk (H1.out.blk B6.out G6.out hk); have H2 := Aside0.mk (H1.out.call hs hk); clear hs hk q60 z60 q61 z61 q62 z62; have q60 := (blk_cell B6.out 0).trans rfl; have z60 := blk_frozen B6.out 0; have q61 := (blk_cell B6.out 1).trans rfl; have z61 := blk_frozen B6.out 1; have q62 := (blk_cell B6.out 2).trans rfl; have z62 := blk_frozen B6.out 2)
            | ((with_reducible refine gate_dst (N := 7) rfl ?_); refine box_event ?hg (N := 7) ?hd (cs := #[.int .i64 0, .int .i64 0, .string (⟨#[]⟩ : ByteArray)]) (t := 23) ?hr ?_; (case hd => rfl); (case hg => rfl); (case hr => first | (go_simp; done) | (go_simp; rfl)); intro b7 hb7 wb7 hbox hb; have H3 := Aside0.mk (H2.out.up hb); have B7 := Aside0.mk hbox; have G7 := Aside0.mk (show w.heap.size ≤ b7 by have := (H2.out.keep).1; omega); have LT7 := Aside0.mk (blk_lt hbox); have N7 := Aside0.mk (show b6 ≠ b7 by have := blk_lt B6.out; omega); replace B6 := Aside0.mk (blk_below B6.out hb); clear hb7 hbox hb; have q70 := (blk_cell B7.out 0).trans rfl; have q71 := (blk_cell B7.out 1).trans rfl; have q72 := (blk_cell B7.out 2).trans rfl; have z70 := blk_frozen B7.out 0; have z71 := blk_frozen B7.out 1; have z72 := blk_frozen B7.out 2)
            | (go_at_call 66; (with_reducible refine (need_true 63 _).mono ?_); rintro e w4 ⟨rfl, hw⟩; have H4 : Aside0 (RW w0 w w4 rb r1) := ⟨by rw [hw]; exact H3.out.set3 G7.out⟩; replace B6 : Aside0 (w4.heap[b6]? = some (.cells #[.int .i64 0, .int .i64 0, .string (⟨#[]⟩ : ByteArray)] 23 (0, 0))) := ⟨by rw [hw]; exact far3 B6.out N7.out⟩; replace B7 : Aside0 (w4.heap[b7]? = some (.cells #[.int .i64 2, .int .i64 0, .string (⟨#[]⟩ : ByteArray)] 23 (0, 0))) := ⟨by rw [hw]; exact blk3 B7.out⟩; clear hw q60 z60 q61 z61 q62 z62 q70 z70 q71 z71 q72 z72; have q60 := (blk_cell B6.out 0).trans rfl; have z60 := blk_frozen B6.out 0; have q61 := (blk_cell B6.out 1).trans rfl; have z61 := blk_frozen B6.out 1; have q62 := (blk_cell B6.out 2).trans rfl; have z62 := blk_frozen B6.out 2; have q70 := (blk_cell B7.out 0).trans rfl; have z70 := blk_frozen B7.out 0; have q71 := (blk_cell B7.out 1).trans rfl; have z71 := blk_frozen B7.out 1; have q72 := (blk_cell B7.out 2).trans rfl; have z72 := blk_frozen B7.out 2))
          exact ⟨rfl, Reads.upped HK.out HB.out⟩
        | ok p =>
          obtain ⟨b, r3⟩ := p
          have er : termR 13 1 rest = .ok (⟨2, 0, strOf b⟩, r3) := by rw [termR_go hn (by decide), if_neg (by decide), if_neg (by decide), if_pos rfl, Rd.then_ok hm, Int.toNat_natCast, Rd.then_ok hq]; rfl
          rw [er]
          have HN3 := Aside0.mk (show ∀ e w' W, Reads w0 W rb (takeR m r2) (ValB w0) e w' → ∃ v, e = .returned v ∧ ValB w0 b w' v ∧ Rst w0 w' rb r3 ∧ KeepBut W w' rb none from fun e w' W hr => by rw [hq] at hr; exact hr.okv)
          clear hn hm hq er m0 m1 m2
          go_enter Tryd.func67, Tryd.ntmps67
          go_wp2_with (first
            | ((with_reducible refine gate_dst (N := 6) rfl ?_); refine box_event ?hg (N := 6) ?hd (cs := #[.int .i64 0, .int .i64 0, .string (⟨#[]⟩ : ByteArray)]) (t := 23) ?hr ?_; (case hd => rfl); (case hg => rfl); (case hr => first | (go_simp; done) | (go_simp; rfl)); intro b6 hb6 wb6 hbox hb; have H1 := Aside0.mk (HS.out.up hb); have B6 := Aside0.mk hbox; have G6 := Aside0.mk (show w.heap.size ≤ b6 by have := (HS.out.keep).1; omega); have LT6 := Aside0.mk (blk_lt hbox); clear hb6 hbox hb; have q60 := (blk_cell B6.out 0).trans rfl; have q61 := (blk_cell B6.out 1).trans rfl; have q62 := (blk_cell B6.out 2).trans rfl; have z60 := blk_frozen B6.out 0; have z61 := blk_frozen B6.out 1; have z62 := blk_frozen B6.out 2)
            | (go_at_call 69; (with_reducible refine ((small_calls w0 _ rb r1 1 64 hby1 H4.out.st).mono (fun e w' hr => (HN2.out e w' _ hr))).mono ?_); rintro e w5 ⟨v, rfl, rfl, hs, hk⟩; replace B6 := Aside0.mk (H4.out.blk B6.out G6.out hk); replace B7 := Aside0.mk (H4.out.blk B7.out G7.out hk); have H5 := Aside0.mk (H4.out.call hs hk); clear hs hk)
            | (go_at_call 68; (with_reducible refine ((take_calls w0 _ rb r2 m HM.out H5.out.st).mono (fun e w' hr => (HN3.out e w' _ hr))).mono ?_); rintro e w6 ⟨v, rfl, ⟨A, c, rfl, hA⟩, hs, hk⟩; replace B6 := Aside0.mk (H5.out.blk B6.out G6.out hk); replace B7 := Aside0.mk (H5.out.blk B7.out G7.out hk); have H6 := Aside0.mk (H5.out.call hs hk); have hstr := string_of_reads (P := Tryd.prog) (src := 27) (dst := 9) (c := c) Tryd.underlying27 Tryd.underlying5 Tryd.underlying9 (hA.below hs.below); have hne67 := N7.out; have hne76 := Ne.symm N7.out; clear hs hk hA q60 z60 q61 z61 q62 z62 q70 z70 q71 z71 q72 z72; have q60 := (blk_cell B6.out 0).trans rfl; have z60 := blk_frozen B6.out 0; have q61 := (blk_cell B6.out 1).trans rfl; have z61 := blk_frozen B6.out 1; have q62 := (blk_cell B6.out 2).trans rfl; have z62 := blk_frozen B6.out 2; have q70 := (blk_cell B7.out 0).trans rfl; have z70 := blk_frozen B7.out 0; have q71 := (blk_cell B7.out 1).trans rfl; have z71 := blk_frozen B7.out 1; have q72 := (blk_cell B7.out 2).trans rfl; have z72 := blk_frozen B7.out 2)
            | (go_at_call 96; (with_reducible refine ((number_calls1 w0 _ rb rest hby H1.out.st).mono (fun e w' hr => (HN1.out e w' _ hr))).mono ?_); rintro e w2 ⟨v, rfl, rfl, hs, hk⟩; replace B6 := Aside0.mk (H1.out.blk B6.out G6.out hk); have H2 := Aside0.mk (H1.out.call hs hk); clear hs hk q60 z60 q61 z61 q62 z62; have q60 := (blk_cell B6.out 0).trans rfl; have z60 := blk_frozen B6.out 0; have q61 := (blk_cell B6.out 1).trans rfl; have z61 := blk_frozen B6.out 1; have q62 := (blk_cell B6.out 2).trans rfl; have z62 := blk_frozen B6.out 2)
            | ((with_reducible refine gate_dst (N := 7) rfl ?_); refine box_event ?hg (N := 7) ?hd (cs := #[.int .i64 0, .int .i64 0, .string (⟨#[]⟩ : ByteArray)]) (t := 23) ?hr ?_; (case hd => rfl); (case hg => rfl); (case hr => first | (go_simp; done) | (go_simp; rfl)); intro b7 hb7 wb7 hbox hb; have H3 := Aside0.mk (H2.out.up hb); have B7 := Aside0.mk hbox; have G7 := Aside0.mk (show w.heap.size ≤ b7 by have := (H2.out.keep).1; omega); have LT7 := Aside0.mk (blk_lt hbox); have N7 := Aside0.mk (show b6 ≠ b7 by have := blk_lt B6.out; omega); replace B6 := Aside0.mk (blk_below B6.out hb); clear hb7 hbox hb; have q70 := (blk_cell B7.out 0).trans rfl; have q71 := (blk_cell B7.out 1).trans rfl; have q72 := (blk_cell B7.out 2).trans rfl; have z70 := blk_frozen B7.out 0; have z71 := blk_frozen B7.out 1; have z72 := blk_frozen B7.out 2)
            | (go_at_call 66; (with_reducible refine (need_true 63 _).mono ?_); rintro e w4 ⟨rfl, hw⟩; have H4 : Aside0 (RW w0 w w4 rb r1) := ⟨by rw [hw]; exact H3.out.set3 G7.out⟩; replace B6 : Aside0 (w4.heap[b6]? = some (.cells #[.int .i64 0, .int .i64 0, .string (⟨#[]⟩ : ByteArray)] 23 (0, 0))) := ⟨by rw [hw]; exact far3 B6.out N7.out⟩; replace B7 : Aside0 (w4.heap[b7]? = some (.cells #[.int .i64 2, .int .i64 0, .string (⟨#[]⟩ : ByteArray)] 23 (0, 0))) := ⟨by rw [hw]; exact blk3 B7.out⟩; clear hw q60 z60 q61 z61 q62 z62 q70 z70 q71 z71 q72 z72; have q60 := (blk_cell B6.out 0).trans rfl; have z60 := blk_frozen B6.out 0; have q61 := (blk_cell B6.out 1).trans rfl; have z61 := blk_frozen B6.out 1; have q62 := (blk_cell B6.out 2).trans rfl; have z62 := blk_frozen B6.out 2; have q70 := (blk_cell B7.out 0).trans rfl; have z70 := blk_frozen B7.out 0; have q71 := (blk_cell B7.out 1).trans rfl; have z71 := blk_frozen B7.out 1; have q72 := (blk_cell B7.out 2).trans rfl; have z72 := blk_frozen B7.out 2))
          refine bodyPost_ret (results_cell_row rfl _ _ b6 23 #[(.int .i64 2), (.int .i64 0), (.string (strOf b))] (0, 0) _ rfl (blk3 (far1 B6.out N7.out)) Tryd.underlying23 rfl (by kernel_rfl)) rfl ?_
          exact Reads.give ((H6.out.set G7.out 2 (.string (strOf b))).set3 G6.out).keep ((H6.out.set G7.out 2 (.string (strOf b))).set3 G6.out).st rfl
    by_cases h3 : n = 3
    · subst h3
      clear n0 n1
      have hbit : bits BinOp.and IntKind.i64 1 1 = 1 := by decide
      cases hm : natR r1 with
      | error c =>
        have er : termR 13 1 rest = .error c := by rw [termR_go hn (by decide), if_neg (by decide), if_pos rfl, Rd.then_err hm]
        rw [er]
        have HN2 := Aside0.mk (show ∀ e w' W, Reads w0 W rb (natR r1) (ValI .i64) e w' → e = gaveUp c ∧ KeepBut W w' rb none ∧ Below w0.heap.size w0 w' from fun e w' W hr => by rw [hm] at hr; exact hr.nov)
        clear hn hm er
        go_enter Tryd.func67, Tryd.ntmps67
        go_wp2_with (first
          | ((with_reducible refine gate_dst (N := 6) rfl ?_); refine box_event ?hg (N := 6) ?hd (cs := #[.int .i64 0, .int .i64 0, .string (⟨#[]⟩ : ByteArray)]) (t := 23) ?hr ?_; (case hd => rfl); (case hg => rfl); (case hr => first | (go_simp; done) | (go_simp; rfl)); intro b6 hb6 wb6 hbox hb; have H1 := Aside0.mk (HS.out.up hb); have B6 := Aside0.mk hbox; have G6 := Aside0.mk (show w.heap.size ≤ b6 by have := (HS.out.keep).1; omega); have LT6 := Aside0.mk (blk_lt hbox); clear hb6 hbox hb; have q60 := (blk_cell B6.out 0).trans rfl; have q61 := (blk_cell B6.out 1).trans rfl; have q62 := (blk_cell B6.out 2).trans rfl; have z60 := blk_frozen B6.out 0; have z61 := blk_frozen B6.out 1; have z62 := blk_frozen B6.out 2)
          | (go_at_call 97; (with_reducible refine ((natural_calls w0 _ rb r1 hby1 H4.out.st).mono (fun e w' hr => (HN2.out e w' _ hr))).mono ?_); rintro e w5 ⟨rfl, hk, hb⟩; have HK := Aside0.mk (H4.out.ups hk); have HB := Aside0.mk hb; clear hk hb)
          | (go_at_call 96; (with_reducible refine ((number_calls1 w0 _ rb rest hby H1.out.st).mono (fun e w' hr => (HN1.out e w' _ hr))).mono ?_); rintro e w2 ⟨v, rfl, rfl, hs, hk⟩; replace B6 := Aside0.mk (H1.out.blk B6.out G6.out hk); have H2 := Aside0.mk (H1.out.call hs hk); clear hs hk q60 z60 q61 z61 q62 z62; have q60 := (blk_cell B6.out 0).trans rfl; have z60 := blk_frozen B6.out 0; have q61 := (blk_cell B6.out 1).trans rfl; have z61 := blk_frozen B6.out 1; have q62 := (blk_cell B6.out 2).trans rfl; have z62 := blk_frozen B6.out 2)
          | ((with_reducible refine gate_dst (N := 7) rfl ?_); refine box_event ?hg (N := 7) ?hd (cs := #[.int .i64 0, .int .i64 0, .string (⟨#[]⟩ : ByteArray)]) (t := 23) ?hr ?_; (case hd => rfl); (case hg => rfl); (case hr => first | (go_simp; done) | (go_simp; rfl)); intro b7 hb7 wb7 hbox hb; have H3 := Aside0.mk (H2.out.up hb); have B7 := Aside0.mk hbox; have G7 := Aside0.mk (show w.heap.size ≤ b7 by have := (H2.out.keep).1; omega); have LT7 := Aside0.mk (blk_lt hbox); have N7 := Aside0.mk (show b6 ≠ b7 by have := blk_lt B6.out; omega); replace B6 := Aside0.mk (blk_below B6.out hb); clear hb7 hbox hb; have q70 := (blk_cell B7.out 0).trans rfl; have q71 := (blk_cell B7.out 1).trans rfl; have q72 := (blk_cell B7.out 2).trans rfl; have z70 := blk_frozen B7.out 0; have z71 := blk_frozen B7.out 1; have z72 := blk_frozen B7.out 2)
          | (go_at_call 66; (with_reducible refine (need_true 63 _).mono ?_); rintro e w4 ⟨rfl, hw⟩; have H4 : Aside0 (RW w0 w w4 rb r1) := ⟨by rw [hw]; exact H3.out.set3 G7.out⟩; replace B6 : Aside0 (w4.heap[b6]? = some (.cells #[.int .i64 0, .int .i64 0, .string (⟨#[]⟩ : ByteArray)] 23 (0, 0))) := ⟨by rw [hw]; exact far3 B6.out N7.out⟩; replace B7 : Aside0 (w4.heap[b7]? = some (.cells #[.int .i64 3, .int .i64 0, .string (⟨#[]⟩ : ByteArray)] 23 (0, 0))) := ⟨by rw [hw]; exact blk3 B7.out⟩; clear hw q60 z60 q61 z61 q62 z62 q70 z70 q71 z71 q72 z72; have q60 := (blk_cell B6.out 0).trans rfl; have z60 := blk_frozen B6.out 0; have q61 := (blk_cell B6.out 1).trans rfl; have z61 := blk_frozen B6.out 1; have q62 := (blk_cell B6.out 2).trans rfl; have z62 := blk_frozen B6.out 2; have q70 := (blk_cell B7.out 0).trans rfl; have z70 := blk_frozen B7.out 0; have q71 := (blk_cell B7.out 1).trans rfl; have z71 := blk_frozen B7.out 1; have q72 := (blk_cell B7.out 2).trans rfl; have z72 := blk_frozen B7.out 2))
        exact ⟨rfl, Reads.upped HK.out HB.out⟩
      | ok p =>
        obtain ⟨m, r2⟩ := p
        have er : termR 13 1 rest = .ok (⟨3, m, ⟨#[]⟩⟩, r2) := by rw [termR_go hn (by decide), if_neg (by decide), if_pos rfl, Rd.then_ok hm]; rfl
        rw [er]
        have HN2 := Aside0.mk (show ∀ e w' W, Reads w0 W rb (natR r1) (ValI .i64) e w' → ∃ v, e = .returned v ∧ ValI .i64 m w' v ∧ Rst w0 w' rb r2 ∧ KeepBut W w' rb none from fun e w' W hr => by rw [hm] at hr; exact hr.okv)
        clear hn hm er
        go_enter Tryd.func67, Tryd.ntmps67
        go_wp2_with (first
          | ((with_reducible refine gate_dst (N := 6) rfl ?_); refine box_event ?hg (N := 6) ?hd (cs := #[.int .i64 0, .int .i64 0, .string (⟨#[]⟩ : ByteArray)]) (t := 23) ?hr ?_; (case hd => rfl); (case hg => rfl); (case hr => first | (go_simp; done) | (go_simp; rfl)); intro b6 hb6 wb6 hbox hb; have H1 := Aside0.mk (HS.out.up hb); have B6 := Aside0.mk hbox; have G6 := Aside0.mk (show w.heap.size ≤ b6 by have := (HS.out.keep).1; omega); have LT6 := Aside0.mk (blk_lt hbox); clear hb6 hbox hb; have q60 := (blk_cell B6.out 0).trans rfl; have q61 := (blk_cell B6.out 1).trans rfl; have q62 := (blk_cell B6.out 2).trans rfl; have z60 := blk_frozen B6.out 0; have z61 := blk_frozen B6.out 1; have z62 := blk_frozen B6.out 2)
          | (go_at_call 97; (with_reducible refine ((natural_calls w0 _ rb r1 hby1 H4.out.st).mono (fun e w' hr => (HN2.out e w' _ hr))).mono ?_); rintro e w5 ⟨v, rfl, rfl, hs, hk⟩; replace B6 := Aside0.mk (H4.out.blk B6.out G6.out hk); replace B7 := Aside0.mk (H4.out.blk B7.out G7.out hk); have H5 := Aside0.mk (H4.out.call hs hk); have hne67 := N7.out; have hne76 := Ne.symm N7.out; clear hs hk q60 z60 q61 z61 q62 z62 q70 z70 q71 z71 q72 z72; have q60 := (blk_cell B6.out 0).trans rfl; have z60 := blk_frozen B6.out 0; have q61 := (blk_cell B6.out 1).trans rfl; have z61 := blk_frozen B6.out 1; have q62 := (blk_cell B6.out 2).trans rfl; have z62 := blk_frozen B6.out 2; have q70 := (blk_cell B7.out 0).trans rfl; have z70 := blk_frozen B7.out 0; have q71 := (blk_cell B7.out 1).trans rfl; have z71 := blk_frozen B7.out 1; have q72 := (blk_cell B7.out 2).trans rfl; have z72 := blk_frozen B7.out 2)
          | (go_at_call 96; (with_reducible refine ((number_calls1 w0 _ rb rest hby H1.out.st).mono (fun e w' hr => (HN1.out e w' _ hr))).mono ?_); rintro e w2 ⟨v, rfl, rfl, hs, hk⟩; replace B6 := Aside0.mk (H1.out.blk B6.out G6.out hk); have H2 := Aside0.mk (H1.out.call hs hk); clear hs hk q60 z60 q61 z61 q62 z62; have q60 := (blk_cell B6.out 0).trans rfl; have z60 := blk_frozen B6.out 0; have q61 := (blk_cell B6.out 1).trans rfl; have z61 := blk_frozen B6.out 1; have q62 := (blk_cell B6.out 2).trans rfl; have z62 := blk_frozen B6.out 2)
          | ((with_reducible refine gate_dst (N := 7) rfl ?_); refine box_event ?hg (N := 7) ?hd (cs := #[.int .i64 0, .int .i64 0, .string (⟨#[]⟩ : ByteArray)]) (t := 23) ?hr ?_; (case hd => rfl); (case hg => rfl); (case hr => first | (go_simp; done) | (go_simp; rfl)); intro b7 hb7 wb7 hbox hb; have H3 := Aside0.mk (H2.out.up hb); have B7 := Aside0.mk hbox; have G7 := Aside0.mk (show w.heap.size ≤ b7 by have := (H2.out.keep).1; omega); have LT7 := Aside0.mk (blk_lt hbox); have N7 := Aside0.mk (show b6 ≠ b7 by have := blk_lt B6.out; omega); replace B6 := Aside0.mk (blk_below B6.out hb); clear hb7 hbox hb; have q70 := (blk_cell B7.out 0).trans rfl; have q71 := (blk_cell B7.out 1).trans rfl; have q72 := (blk_cell B7.out 2).trans rfl; have z70 := blk_frozen B7.out 0; have z71 := blk_frozen B7.out 1; have z72 := blk_frozen B7.out 2)
          | (go_at_call 66; (with_reducible refine (need_true 63 _).mono ?_); rintro e w4 ⟨rfl, hw⟩; have H4 : Aside0 (RW w0 w w4 rb r1) := ⟨by rw [hw]; exact H3.out.set3 G7.out⟩; replace B6 : Aside0 (w4.heap[b6]? = some (.cells #[.int .i64 0, .int .i64 0, .string (⟨#[]⟩ : ByteArray)] 23 (0, 0))) := ⟨by rw [hw]; exact far3 B6.out N7.out⟩; replace B7 : Aside0 (w4.heap[b7]? = some (.cells #[.int .i64 3, .int .i64 0, .string (⟨#[]⟩ : ByteArray)] 23 (0, 0))) := ⟨by rw [hw]; exact blk3 B7.out⟩; clear hw q60 z60 q61 z61 q62 z62 q70 z70 q71 z71 q72 z72; have q60 := (blk_cell B6.out 0).trans rfl; have z60 := blk_frozen B6.out 0; have q61 := (blk_cell B6.out 1).trans rfl; have z61 := blk_frozen B6.out 1; have q62 := (blk_cell B6.out 2).trans rfl; have z62 := blk_frozen B6.out 2; have q70 := (blk_cell B7.out 0).trans rfl; have z70 := blk_frozen B7.out 0; have q71 := (blk_cell B7.out 1).trans rfl; have z71 := blk_frozen B7.out 1; have q72 := (blk_cell B7.out 2).trans rfl; have z72 := blk_frozen B7.out 2))
        refine bodyPost_ret (results_cell_row rfl _ _ b6 23 #[(.int .i64 3), (.int .i64 (m)), (.string (⟨#[]⟩ : ByteArray))] (0, 0) _ rfl (blk3 (far1 B6.out N7.out)) Tryd.underlying23 rfl (by kernel_rfl)) rfl ?_
        exact Reads.give ((H5.out.set G7.out 1 (.int .i64 (m))).set3 G6.out).keep ((H5.out.set G7.out 1 (.int .i64 (m))).set3 G6.out).st rfl
    have hk : kindOk 13 n = false := by unfold kindOk; rw [decide_eq_false (show ¬ n ≤ 3 by omega)]; rfl
    have d1 : decide (n ≤ 3) = false := decide_eq_false (by omega)
    have hwr : wrap64 n = n := by simp only [wrap64]; omega
    rw [termR_bad hn hk]
    clear hn hk h0 h1 h2 h3 n0 n1
    go_enter Tryd.func67, Tryd.ntmps67
    go_wp2_with (first
      | ((with_reducible refine gate_dst (N := 6) rfl ?_); refine box_event ?hg (N := 6) ?hd (cs := #[.int .i64 0, .int .i64 0, .string (⟨#[]⟩ : ByteArray)]) (t := 23) ?hr ?_; (case hd => rfl); (case hg => rfl); (case hr => first | (go_simp; done) | (go_simp; rfl)); intro b6 hb6 wb6 hbox hb; have H1 := Aside0.mk (HS.out.up hb); have B6 := Aside0.mk hbox; have G6 := Aside0.mk (show w.heap.size ≤ b6 by have := (HS.out.keep).1; omega); have LT6 := Aside0.mk (blk_lt hbox); clear hb6 hbox hb; have q60 := (blk_cell B6.out 0).trans rfl; have q61 := (blk_cell B6.out 1).trans rfl; have q62 := (blk_cell B6.out 2).trans rfl; have z60 := blk_frozen B6.out 0; have z61 := blk_frozen B6.out 1; have z62 := blk_frozen B6.out 2)
      | (go_at_call 96; (with_reducible refine ((number_calls1 w0 _ rb rest hby H1.out.st).mono (fun e w' hr => (HN1.out e w' _ hr))).mono ?_); rintro e w2 ⟨v, rfl, rfl, hs, hk⟩; replace B6 := Aside0.mk (H1.out.blk B6.out G6.out hk); have H2 := Aside0.mk (H1.out.call hs hk); clear hs hk q60 z60 q61 z61 q62 z62; have q60 := (blk_cell B6.out 0).trans rfl; have z60 := blk_frozen B6.out 0; have q61 := (blk_cell B6.out 1).trans rfl; have z61 := blk_frozen B6.out 1; have q62 := (blk_cell B6.out 2).trans rfl; have z62 := blk_frozen B6.out 2)
      | ((with_reducible refine gate_dst (N := 7) rfl ?_); refine box_event ?hg (N := 7) ?hd (cs := #[.int .i64 0, .int .i64 0, .string (⟨#[]⟩ : ByteArray)]) (t := 23) ?hr ?_; (case hd => rfl); (case hg => rfl); (case hr => first | (go_simp; done) | (go_simp; rfl)); intro b7 hb7 wb7 hbox hb; have H3 := Aside0.mk (H2.out.up hb); have B7 := Aside0.mk hbox; have G7 := Aside0.mk (show w.heap.size ≤ b7 by have := (H2.out.keep).1; omega); have LT7 := Aside0.mk (blk_lt hbox); have N7 := Aside0.mk (show b6 ≠ b7 by have := blk_lt B6.out; omega); replace B6 := Aside0.mk (blk_below B6.out hb); clear hb7 hbox hb; have q70 := (blk_cell B7.out 0).trans rfl; have q71 := (blk_cell B7.out 1).trans rfl; have q72 := (blk_cell B7.out 2).trans rfl; have z70 := blk_frozen B7.out 0; have z71 := blk_frozen B7.out 1; have z72 := blk_frozen B7.out 2)
      | (go_at_call 66; (with_reducible refine (need_false 63 _).mono ?_); rintro e w4 ⟨rfl, hw⟩; have H4 : Aside0 (RW w0 w w4 rb r1) := ⟨by rw [hw]; exact H3.out.set3 G7.out⟩; clear hw))
    exact ⟨rfl, Reads.upped H4.out.keep H4.out.st.below⟩
set_option maxHeartbeats 8000000 in
set_option maxRecDepth 100000 in
theorem term_calls14 (w0 w : World) (rb : Nat) (rest : List Int) (hby : isBytes rest) (h : Rst w0 w rb rest) :
    Calls Tryd.prog 67 #[.pointer (some ⟨rb, 0, none⟩), .int .i64 14, .int .i64 0] w (Reads w0 w rb (termR 14 0 rest) ValT) := by
  have hu23 := Tryd.underlying23
  have HS := Aside0.mk (RW.start h)
  clear h
  cases hn : numR 1 rest with
  | error c =>
    rw [termR_err hn]
    have HN1 := Aside0.mk (show ∀ e w' W, Reads w0 W rb (numR 1 rest) (ValI .u64) e w' → e = gaveUp c ∧ KeepBut W w' rb none ∧ Below w0.heap.size w0 w' from fun e w' W hr => by rw [hn] at hr; exact hr.nov)
    clear hn
    go_enter Tryd.func67, Tryd.ntmps67
    go_wp2_with (first
      | ((with_reducible refine gate_dst (N := 6) rfl ?_); refine box_event ?hg (N := 6) ?hd (cs := #[.int .i64 0, .int .i64 0, .string (⟨#[]⟩ : ByteArray)]) (t := 23) ?hr ?_; (case hd => rfl); (case hg => rfl); (case hr => first | (go_simp; done) | (go_simp; rfl)); intro b6 hb6 wb6 hbox hb; have H1 := Aside0.mk (HS.out.up hb); have B6 := Aside0.mk hbox; have G6 := Aside0.mk (show w.heap.size ≤ b6 by have := (HS.out.keep).1; omega); have LT6 := Aside0.mk (blk_lt hbox); clear hb6 hbox hb; have q60 := (blk_cell B6.out 0).trans rfl; have q61 := (blk_cell B6.out 1).trans rfl; have q62 := (blk_cell B6.out 2).trans rfl; have z60 := blk_frozen B6.out 0; have z61 := blk_frozen B6.out 1; have z62 := blk_frozen B6.out 2)
      | (go_at_call 96; (with_reducible refine ((number_calls1 w0 _ rb rest hby H1.out.st).mono (fun e w' hr => (HN1.out e w' _ hr))).mono ?_); rintro e w2 ⟨rfl, hk, hb⟩; have HK := Aside0.mk (H1.out.ups hk); have HB := Aside0.mk hb; clear hk hb))
    exact ⟨rfl, Reads.upped HK.out HB.out⟩
  | ok p =>
    obtain ⟨n, r1⟩ := p
    have HN1 := Aside0.mk (show ∀ e w' W, Reads w0 W rb (numR 1 rest) (ValI .u64) e w' → ∃ v, e = .returned v ∧ ValI .u64 n w' v ∧ Rst w0 w' rb r1 ∧ KeepBut W w' rb none from fun e w' W hr => by rw [hn] at hr; exact hr.okv)
    obtain ⟨n0, n1, hby1⟩ := numR_ok hby hn
    by_cases h0 : n = 0
    · subst h0
      clear n0 n1
      have hbit : bits BinOp.and IntKind.i64 14 1 = 0 := by decide
      rw [termR_bad hn (by decide)]
      clear hn
      go_enter Tryd.func67, Tryd.ntmps67
      go_wp2_with (first
        | ((with_reducible refine gate_dst (N := 6) rfl ?_); refine box_event ?hg (N := 6) ?hd (cs := #[.int .i64 0, .int .i64 0, .string (⟨#[]⟩ : ByteArray)]) (t := 23) ?hr ?_; (case hd => rfl); (case hg => rfl); (case hr => first | (go_simp; done) | (go_simp; rfl)); intro b6 hb6 wb6 hbox hb; have H1 := Aside0.mk (HS.out.up hb); have B6 := Aside0.mk hbox; have G6 := Aside0.mk (show w.heap.size ≤ b6 by have := (HS.out.keep).1; omega); have LT6 := Aside0.mk (blk_lt hbox); clear hb6 hbox hb; have q60 := (blk_cell B6.out 0).trans rfl; have q61 := (blk_cell B6.out 1).trans rfl; have q62 := (blk_cell B6.out 2).trans rfl; have z60 := blk_frozen B6.out 0; have z61 := blk_frozen B6.out 1; have z62 := blk_frozen B6.out 2)
        | (go_at_call 96; (with_reducible refine ((number_calls1 w0 _ rb rest hby H1.out.st).mono (fun e w' hr => (HN1.out e w' _ hr))).mono ?_); rintro e w2 ⟨v, rfl, rfl, hs, hk⟩; replace B6 := Aside0.mk (H1.out.blk B6.out G6.out hk); have H2 := Aside0.mk (H1.out.call hs hk); clear hs hk q60 z60 q61 z61 q62 z62; have q60 := (blk_cell B6.out 0).trans rfl; have z60 := blk_frozen B6.out 0; have q61 := (blk_cell B6.out 1).trans rfl; have z61 := blk_frozen B6.out 1; have q62 := (blk_cell B6.out 2).trans rfl; have z62 := blk_frozen B6.out 2)
        | ((with_reducible refine gate_dst (N := 7) rfl ?_); refine box_event ?hg (N := 7) ?hd (cs := #[.int .i64 0, .int .i64 0, .string (⟨#[]⟩ : ByteArray)]) (t := 23) ?hr ?_; (case hd => rfl); (case hg => rfl); (case hr => first | (go_simp; done) | (go_simp; rfl)); intro b7 hb7 wb7 hbox hb; have H3 := Aside0.mk (H2.out.up hb); have B7 := Aside0.mk hbox; have G7 := Aside0.mk (show w.heap.size ≤ b7 by have := (H2.out.keep).1; omega); have LT7 := Aside0.mk (blk_lt hbox); have N7 := Aside0.mk (show b6 ≠ b7 by have := blk_lt B6.out; omega); replace B6 := Aside0.mk (blk_below B6.out hb); clear hb7 hbox hb; have q70 := (blk_cell B7.out 0).trans rfl; have q71 := (blk_cell B7.out 1).trans rfl; have q72 := (blk_cell B7.out 2).trans rfl; have z70 := blk_frozen B7.out 0; have z71 := blk_frozen B7.out 1; have z72 := blk_frozen B7.out 2)
        | (go_at_call 66; (with_reducible refine (need_false 63 _).mono ?_); rintro e w4 ⟨rfl, hw⟩; have H4 : Aside0 (RW w0 w w4 rb r1) := ⟨by rw [hw]; exact H3.out.set3 G7.out⟩; clear hw))
      exact ⟨rfl, Reads.upped H4.out.keep H4.out.st.below⟩
    by_cases h1 : n = 1
    · subst h1
      clear n0 n1
      have hbit : bits BinOp.and IntKind.i64 7 1 = 1 := by decide
      cases hm : numR 8 r1 with
      | error c =>
        have er : termR 14 0 rest = .error c := by rw [termR_go hn (by decide), if_pos rfl, Rd.then_err hm]
        rw [er]
        have HN2 := Aside0.mk (show ∀ e w' W, Reads w0 W rb (numR 8 r1) (ValI .u64) e w' → e = gaveUp c ∧ KeepBut W w' rb none ∧ Below w0.heap.size w0 w' from fun e w' W hr => by rw [hm] at hr; exact hr.nov)
        clear hn hm er
        go_enter Tryd.func67, Tryd.ntmps67
        go_wp2_with (first
          | ((with_reducible refine gate_dst (N := 6) rfl ?_); refine box_event ?hg (N := 6) ?hd (cs := #[.int .i64 0, .int .i64 0, .string (⟨#[]⟩ : ByteArray)]) (t := 23) ?hr ?_; (case hd => rfl); (case hg => rfl); (case hr => first | (go_simp; done) | (go_simp; rfl)); intro b6 hb6 wb6 hbox hb; have H1 := Aside0.mk (HS.out.up hb); have B6 := Aside0.mk hbox; have G6 := Aside0.mk (show w.heap.size ≤ b6 by have := (HS.out.keep).1; omega); have LT6 := Aside0.mk (blk_lt hbox); clear hb6 hbox hb; have q60 := (blk_cell B6.out 0).trans rfl; have q61 := (blk_cell B6.out 1).trans rfl; have q62 := (blk_cell B6.out 2).trans rfl; have z60 := blk_frozen B6.out 0; have z61 := blk_frozen B6.out 1; have z62 := blk_frozen B6.out 2)
          | (go_at_call 96; (with_reducible refine ((number_calls8 w0 _ rb r1 hby1 H4.out.st).mono (fun e w' hr => (HN2.out e w' _ hr))).mono ?_); rintro e w5 ⟨rfl, hk, hb⟩; have HK := Aside0.mk (H4.out.ups hk); have HB := Aside0.mk hb; clear hk hb)
          | (go_at_call 96; (with_reducible refine ((number_calls1 w0 _ rb rest hby H1.out.st).mono (fun e w' hr => (HN1.out e w' _ hr))).mono ?_); rintro e w2 ⟨v, rfl, rfl, hs, hk⟩; replace B6 := Aside0.mk (H1.out.blk B6.out G6.out hk); have H2 := Aside0.mk (H1.out.call hs hk); clear hs hk q60 z60 q61 z61 q62 z62; have q60 := (blk_cell B6.out 0).trans rfl; have z60 := blk_frozen B6.out 0; have q61 := (blk_cell B6.out 1).trans rfl; have z61 := blk_frozen B6.out 1; have q62 := (blk_cell B6.out 2).trans rfl; have z62 := blk_frozen B6.out 2)
          | ((with_reducible refine gate_dst (N := 7) rfl ?_); refine box_event ?hg (N := 7) ?hd (cs := #[.int .i64 0, .int .i64 0, .string (⟨#[]⟩ : ByteArray)]) (t := 23) ?hr ?_; (case hd => rfl); (case hg => rfl); (case hr => first | (go_simp; done) | (go_simp; rfl)); intro b7 hb7 wb7 hbox hb; have H3 := Aside0.mk (H2.out.up hb); have B7 := Aside0.mk hbox; have G7 := Aside0.mk (show w.heap.size ≤ b7 by have := (H2.out.keep).1; omega); have LT7 := Aside0.mk (blk_lt hbox); have N7 := Aside0.mk (show b6 ≠ b7 by have := blk_lt B6.out; omega); replace B6 := Aside0.mk (blk_below B6.out hb); clear hb7 hbox hb; have q70 := (blk_cell B7.out 0).trans rfl; have q71 := (blk_cell B7.out 1).trans rfl; have q72 := (blk_cell B7.out 2).trans rfl; have z70 := blk_frozen B7.out 0; have z71 := blk_frozen B7.out 1; have z72 := blk_frozen B7.out 2)
          | (go_at_call 66; (with_reducible refine (need_true 63 _).mono ?_); rintro e w4 ⟨rfl, hw⟩; have H4 : Aside0 (RW w0 w w4 rb r1) := ⟨by rw [hw]; exact H3.out.set3 G7.out⟩; replace B6 : Aside0 (w4.heap[b6]? = some (.cells #[.int .i64 0, .int .i64 0, .string (⟨#[]⟩ : ByteArray)] 23 (0, 0))) := ⟨by rw [hw]; exact far3 B6.out N7.out⟩; replace B7 : Aside0 (w4.heap[b7]? = some (.cells #[.int .i64 1, .int .i64 0, .string (⟨#[]⟩ : ByteArray)] 23 (0, 0))) := ⟨by rw [hw]; exact blk3 B7.out⟩; clear hw q60 z60 q61 z61 q62 z62 q70 z70 q71 z71 q72 z72; have q60 := (blk_cell B6.out 0).trans rfl; have z60 := blk_frozen B6.out 0; have q61 := (blk_cell B6.out 1).trans rfl; have z61 := blk_frozen B6.out 1; have q62 := (blk_cell B6.out 2).trans rfl; have z62 := blk_frozen B6.out 2; have q70 := (blk_cell B7.out 0).trans rfl; have z70 := blk_frozen B7.out 0; have q71 := (blk_cell B7.out 1).trans rfl; have z71 := blk_frozen B7.out 1; have q72 := (blk_cell B7.out 2).trans rfl; have z72 := blk_frozen B7.out 2))
        exact ⟨rfl, Reads.upped HK.out HB.out⟩
      | ok p =>
        obtain ⟨m, r2⟩ := p
        have er : termR 14 0 rest = .ok (⟨1, i64 m, ⟨#[]⟩⟩, r2) := by rw [termR_go hn (by decide), if_pos rfl, Rd.then_ok hm]; rfl
        rw [er]
        have HN2 := Aside0.mk (show ∀ e w' W, Reads w0 W rb (numR 8 r1) (ValI .u64) e w' → ∃ v, e = .returned v ∧ ValI .u64 m w' v ∧ Rst w0 w' rb r2 ∧ KeepBut W w' rb none from fun e w' W hr => by rw [hm] at hr; exact hr.okv)
        clear hn hm er
        go_enter Tryd.func67, Tryd.ntmps67
        go_wp2_with (first
          | ((with_reducible refine gate_dst (N := 6) rfl ?_); refine box_event ?hg (N := 6) ?hd (cs := #[.int .i64 0, .int .i64 0, .string (⟨#[]⟩ : ByteArray)]) (t := 23) ?hr ?_; (case hd => rfl); (case hg => rfl); (case hr => first | (go_simp; done) | (go_simp; rfl)); intro b6 hb6 wb6 hbox hb; have H1 := Aside0.mk (HS.out.up hb); have B6 := Aside0.mk hbox; have G6 := Aside0.mk (show w.heap.size ≤ b6 by have := (HS.out.keep).1; omega); have LT6 := Aside0.mk (blk_lt hbox); clear hb6 hbox hb; have q60 := (blk_cell B6.out 0).trans rfl; have q61 := (blk_cell B6.out 1).trans rfl; have q62 := (blk_cell B6.out 2).trans rfl; have z60 := blk_frozen B6.out 0; have z61 := blk_frozen B6.out 1; have z62 := blk_frozen B6.out 2)
          | (go_at_call 96; (with_reducible refine ((number_calls8 w0 _ rb r1 hby1 H4.out.st).mono (fun e w' hr => (HN2.out e w' _ hr))).mono ?_); rintro e w5 ⟨v, rfl, rfl, hs, hk⟩; replace B6 := Aside0.mk (H4.out.blk B6.out G6.out hk); replace B7 := Aside0.mk (H4.out.blk B7.out G7.out hk); have H5 := Aside0.mk (H4.out.call hs hk); have hne67 := N7.out; have hne76 := Ne.symm N7.out; clear hs hk q60 z60 q61 z61 q62 z62 q70 z70 q71 z71 q72 z72; have q60 := (blk_cell B6.out 0).trans rfl; have z60 := blk_frozen B6.out 0; have q61 := (blk_cell B6.out 1).trans rfl; have z61 := blk_frozen B6.out 1; have q62 := (blk_cell B6.out 2).trans rfl; have z62 := blk_frozen B6.out 2; have q70 := (blk_cell B7.out 0).trans rfl; have z70 := blk_frozen B7.out 0; have q71 := (blk_cell B7.out 1).trans rfl; have z71 := blk_frozen B7.out 1; have q72 := (blk_cell B7.out 2).trans rfl; have z72 := blk_frozen B7.out 2)
          | (go_at_call 96; (with_reducible refine ((number_calls1 w0 _ rb rest hby H1.out.st).mono (fun e w' hr => (HN1.out e w' _ hr))).mono ?_); rintro e w2 ⟨v, rfl, rfl, hs, hk⟩; replace B6 := Aside0.mk (H1.out.blk B6.out G6.out hk); have H2 := Aside0.mk (H1.out.call hs hk); clear hs hk q60 z60 q61 z61 q62 z62; have q60 := (blk_cell B6.out 0).trans rfl; have z60 := blk_frozen B6.out 0; have q61 := (blk_cell B6.out 1).trans rfl; have z61 := blk_frozen B6.out 1; have q62 := (blk_cell B6.out 2).trans rfl; have z62 := blk_frozen B6.out 2)
          | ((with_reducible refine gate_dst (N := 7) rfl ?_); refine box_event ?hg (N := 7) ?hd (cs := #[.int .i64 0, .int .i64 0, .string (⟨#[]⟩ : ByteArray)]) (t := 23) ?hr ?_; (case hd => rfl); (case hg => rfl); (case hr => first | (go_simp; done) | (go_simp; rfl)); intro b7 hb7 wb7 hbox hb; have H3 := Aside0.mk (H2.out.up hb); have B7 := Aside0.mk hbox; have G7 := Aside0.mk (show w.heap.size ≤ b7 by have := (H2.out.keep).1; omega); have LT7 := Aside0.mk (blk_lt hbox); have N7 := Aside0.mk (show b6 ≠ b7 by have := blk_lt B6.out; omega); replace B6 := Aside0.mk (blk_below B6.out hb); clear hb7 hbox hb; have q70 := (blk_cell B7.out 0).trans rfl; have q71 := (blk_cell B7.out 1).trans rfl; have q72 := (blk_cell B7.out 2).trans rfl; have z70 := blk_frozen B7.out 0; have z71 := blk_frozen B7.out 1; have z72 := blk_frozen B7.out 2)
          | (go_at_call 66; (with_reducible refine (need_true 63 _).mono ?_); rintro e w4 ⟨rfl, hw⟩; have H4 : Aside0 (RW w0 w w4 rb r1) := ⟨by rw [hw]; exact H3.out.set3 G7.out⟩; replace B6 : Aside0 (w4.heap[b6]? = some (.cells #[.int .i64 0, .int .i64 0, .string (⟨#[]⟩ : ByteArray)] 23 (0, 0))) := ⟨by rw [hw]; exact far3 B6.out N7.out⟩; replace B7 : Aside0 (w4.heap[b7]? = some (.cells #[.int .i64 1, .int .i64 0, .string (⟨#[]⟩ : ByteArray)] 23 (0, 0))) := ⟨by rw [hw]; exact blk3 B7.out⟩; clear hw q60 z60 q61 z61 q62 z62 q70 z70 q71 z71 q72 z72; have q60 := (blk_cell B6.out 0).trans rfl; have z60 := blk_frozen B6.out 0; have q61 := (blk_cell B6.out 1).trans rfl; have z61 := blk_frozen B6.out 1; have q62 := (blk_cell B6.out 2).trans rfl; have z62 := blk_frozen B6.out 2; have q70 := (blk_cell B7.out 0).trans rfl; have z70 := blk_frozen B7.out 0; have q71 := (blk_cell B7.out 1).trans rfl; have z71 := blk_frozen B7.out 1; have q72 := (blk_cell B7.out 2).trans rfl; have z72 := blk_frozen B7.out 2))
        refine bodyPost_ret (results_cell_row rfl _ _ b6 23 #[(.int .i64 1), (.int .i64 (wrap64 m)), (.string (⟨#[]⟩ : ByteArray))] (0, 0) _ rfl (blk3 (far1 B6.out N7.out)) Tryd.underlying23 rfl (by kernel_rfl)) rfl ?_
        exact Reads.give ((H5.out.set G7.out 1 (.int .i64 (wrap64 m))).set3 G6.out).keep ((H5.out.set G7.out 1 (.int .i64 (wrap64 m))).set3 G6.out).st rfl
    by_cases h2 : n = 2
    · subst h2
      clear n0 n1
      have hbit : bits BinOp.and IntKind.i64 3 1 = 1 := by decide
      cases hm : smallR 0 64 r1 with
      | error c =>
        have er : termR 14 0 rest = .error c := by rw [termR_go hn (by decide), if_neg (by decide), if_neg (by decide), if_pos rfl, Rd.then_err hm]
        rw [er]
        have HN2 := Aside0.mk (show ∀ e w' W, Reads w0 W rb (smallR 0 64 r1) (ValI .i64) e w' → e = gaveUp c ∧ KeepBut W w' rb none ∧ Below w0.heap.size w0 w' from fun e w' W hr => by rw [hm] at hr; exact hr.nov)
        clear hn hm er
        go_enter Tryd.func67, Tryd.ntmps67
        go_wp2_with (first
          | ((with_reducible refine gate_dst (N := 6) rfl ?_); refine box_event ?hg (N := 6) ?hd (cs := #[.int .i64 0, .int .i64 0, .string (⟨#[]⟩ : ByteArray)]) (t := 23) ?hr ?_; (case hd => rfl); (case hg => rfl); (case hr => first | (go_simp; done) | (go_simp; rfl)); intro b6 hb6 wb6 hbox hb; have H1 := Aside0.mk (HS.out.up hb); have B6 := Aside0.mk hbox; have G6 := Aside0.mk (show w.heap.size ≤ b6 by have := (HS.out.keep).1; omega); have LT6 := Aside0.mk (blk_lt hbox); clear hb6 hbox hb; have q60 := (blk_cell B6.out 0).trans rfl; have q61 := (blk_cell B6.out 1).trans rfl; have q62 := (blk_cell B6.out 2).trans rfl; have z60 := blk_frozen B6.out 0; have z61 := blk_frozen B6.out 1; have z62 := blk_frozen B6.out 2)
          | (go_at_call 69; (with_reducible refine ((small_calls w0 _ rb r1 0 64 hby1 H4.out.st).mono (fun e w' hr => (HN2.out e w' _ hr))).mono ?_); rintro e w5 ⟨rfl, hk, hb⟩; have HK := Aside0.mk (H4.out.ups hk); have HB := Aside0.mk hb; clear hk hb)
          | (go_at_call 96; (with_reducible refine ((number_calls1 w0 _ rb rest hby H1.out.st).mono (fun e w' hr => (HN1.out e w' _ hr))).mono ?_); rintro e w2 ⟨v, rfl, rfl, hs, hk⟩; replace B6 := Aside0.mk (H1.out.blk B6.out G6.out hk); have H2 := Aside0.mk (H1.out.call hs hk); clear hs hk q60 z60 q61 z61 q62 z62; have q60 := (blk_cell B6.out 0).trans rfl; have z60 := blk_frozen B6.out 0; have q61 := (blk_cell B6.out 1).trans rfl; have z61 := blk_frozen B6.out 1; have q62 := (blk_cell B6.out 2).trans rfl; have z62 := blk_frozen B6.out 2)
          | ((with_reducible refine gate_dst (N := 7) rfl ?_); refine box_event ?hg (N := 7) ?hd (cs := #[.int .i64 0, .int .i64 0, .string (⟨#[]⟩ : ByteArray)]) (t := 23) ?hr ?_; (case hd => rfl); (case hg => rfl); (case hr => first | (go_simp; done) | (go_simp; rfl)); intro b7 hb7 wb7 hbox hb; have H3 := Aside0.mk (H2.out.up hb); have B7 := Aside0.mk hbox; have G7 := Aside0.mk (show w.heap.size ≤ b7 by have := (H2.out.keep).1; omega); have LT7 := Aside0.mk (blk_lt hbox); have N7 := Aside0.mk (show b6 ≠ b7 by have := blk_lt B6.out; omega); replace B6 := Aside0.mk (blk_below B6.out hb); clear hb7 hbox hb; have q70 := (blk_cell B7.out 0).trans rfl; have q71 := (blk_cell B7.out 1).trans rfl; have q72 := (blk_cell B7.out 2).trans rfl; have z70 := blk_frozen B7.out 0; have z71 := blk_frozen B7.out 1; have z72 := blk_frozen B7.out 2)
          | (go_at_call 66; (with_reducible refine (need_true 63 _).mono ?_); rintro e w4 ⟨rfl, hw⟩; have H4 : Aside0 (RW w0 w w4 rb r1) := ⟨by rw [hw]; exact H3.out.set3 G7.out⟩; replace B6 : Aside0 (w4.heap[b6]? = some (.cells #[.int .i64 0, .int .i64 0, .string (⟨#[]⟩ : ByteArray)] 23 (0, 0))) := ⟨by rw [hw]; exact far3 B6.out N7.out⟩; replace B7 : Aside0 (w4.heap[b7]? = some (.cells #[.int .i64 2, .int .i64 0, .string (⟨#[]⟩ : ByteArray)] 23 (0, 0))) := ⟨by rw [hw]; exact blk3 B7.out⟩; clear hw q60 z60 q61 z61 q62 z62 q70 z70 q71 z71 q72 z72; have q60 := (blk_cell B6.out 0).trans rfl; have z60 := blk_frozen B6.out 0; have q61 := (blk_cell B6.out 1).trans rfl; have z61 := blk_frozen B6.out 1; have q62 := (blk_cell B6.out 2).trans rfl; have z62 := blk_frozen B6.out 2; have q70 := (blk_cell B7.out 0).trans rfl; have z70 := blk_frozen B7.out 0; have q71 := (blk_cell B7.out 1).trans rfl; have z71 := blk_frozen B7.out 1; have q72 := (blk_cell B7.out 2).trans rfl; have z72 := blk_frozen B7.out 2))
        exact ⟨rfl, Reads.upped HK.out HB.out⟩
      | ok p =>
        obtain ⟨m, r2⟩ := p
        obtain ⟨m0, m1, m2, hby2⟩ := smallR_ok hby1 hm
        obtain ⟨m, rfl⟩ := Int.eq_ofNat_of_zero_le m2
        have HN2 := Aside0.mk (show ∀ e w' W, Reads w0 W rb (smallR 0 64 r1) (ValI .i64) e w' → ∃ v, e = .returned v ∧ ValI .i64 (m : Int) w' v ∧ Rst w0 w' rb r2 ∧ KeepBut W w' rb none from fun e w' W hr => by rw [hm] at hr; exact hr.okv)
        have HM := Aside0.mk (show m ≤ 4611686018427387904 by omega)
        cases hq : takeR m r2 with
        | error c =>
          have er : termR 14 0 rest = .error c := by rw [termR_go hn (by decide), if_neg (by decide), if_neg (by decide), if_pos rfl, Rd.then_ok hm, Int.toNat_natCast, Rd.then_err hq]
          rw [er]
          have HN3 := Aside0.mk (show ∀ e w' W, Reads w0 W rb (takeR m r2) (ValB w0) e w' → e = gaveUp c ∧ KeepBut W w' rb none ∧ Below w0.heap.size w0 w' from fun e w' W hr => by rw [hq] at hr; exact hr.nov)
          clear hn hm hq er m0 m1 m2
          go_enter Tryd.func67, Tryd.ntmps67
          go_wp2_with (first
            | ((with_reducible refine gate_dst (N := 6) rfl ?_); refine box_event ?hg (N := 6) ?hd (cs := #[.int .i64 0, .int .i64 0, .string (⟨#[]⟩ : ByteArray)]) (t := 23) ?hr ?_; (case hd => rfl); (case hg => rfl); (case hr => first | (go_simp; done) | (go_simp; rfl)); intro b6 hb6 wb6 hbox hb; have H1 := Aside0.mk (HS.out.up hb); have B6 := Aside0.mk hbox; have G6 := Aside0.mk (show w.heap.size ≤ b6 by have := (HS.out.keep).1; omega); have LT6 := Aside0.mk (blk_lt hbox); clear hb6 hbox hb; have q60 := (blk_cell B6.out 0).trans rfl; have q61 := (blk_cell B6.out 1).trans rfl; have q62 := (blk_cell B6.out 2).trans rfl; have z60 := blk_frozen B6.out 0; have z61 := blk_frozen B6.out 1; have z62 := blk_frozen B6.out 2)
            | (go_at_call 69; (with_reducible refine ((small_calls w0 _ rb r1 0 64 hby1 H4.out.st).mono (fun e w' hr => (HN2.out e w' _ hr))).mono ?_); rintro e w5 ⟨v, rfl, rfl, hs, hk⟩; have H5 := Aside0.mk (H4.out.call hs hk); clear hs hk)
            | (go_at_call 68; (with_reducible refine ((take_calls w0 _ rb r2 m HM.out H5.out.st).mono (fun e w' hr => (HN3.out e w' _ hr))).mono ?_); rintro e w6 ⟨rfl, hk, hb⟩; have HK := Aside0.mk (H5.out.ups hk); have HB := Aside0.mk hb; clear hk hb)
            | (go_at_call 96; (with_reducible refine ((number_calls1 w0 _ rb rest hby H1.out.st).mono (fun e w' hr => (HN1.out e w' _ hr))).mono ?_); rintro e w2 ⟨v, rfl, rfl, hs, hk⟩; replace B6 := Aside0.mk (H1.out.blk B6.out G6.out hk); have H2 := Aside0.mk (H1.out.call hs hk); clear hs hk q60 z60 q61 z61 q62 z62; have q60 := (blk_cell B6.out 0).trans rfl; have z60 := blk_frozen B6.out 0; have q61 := (blk_cell B6.out 1).trans rfl; have z61 := blk_frozen B6.out 1; have q62 := (blk_cell B6.out 2).trans rfl; have z62 := blk_frozen B6.out 2)
            | ((with_reducible refine gate_dst (N := 7) rfl ?_); refine box_event ?hg (N := 7) ?hd (cs := #[.int .i64 0, .int .i64 0, .string (⟨#[]⟩ : ByteArray)]) (t := 23) ?hr ?_; (case hd => rfl); (case hg => rfl); (case hr => first | (go_simp; done) | (go_simp; rfl)); intro b7 hb7 wb7 hbox hb; have H3 := Aside0.mk (H2.out.up hb); have B7 := Aside0.mk hbox; have G7 := Aside0.mk (show w.heap.size ≤ b7 by have := (H2.out.keep).1; omega); have LT7 := Aside0.mk (blk_lt hbox); have N7 := Aside0.mk (show b6 ≠ b7 by have := blk_lt B6.out; omega); replace B6 := Aside0.mk (blk_below B6.out hb); clear hb7 hbox hb; have q70 := (blk_cell B7.out 0).trans rfl; have q71 := (blk_cell B7.out 1).trans rfl; have q72 := (blk_cell B7.out 2).trans rfl; have z70 := blk_frozen B7.out 0; have z71 := blk_frozen B7.out 1; have z72 := blk_frozen B7.out 2)
            | (go_at_call 66; (with_reducible refine (need_true 63 _).mono ?_); rintro e w4 ⟨rfl, hw⟩; have H4 : Aside0 (RW w0 w w4 rb r1) := ⟨by rw [hw]; exact H3.out.set3 G7.out⟩; replace B6 : Aside0 (w4.heap[b6]? = some (.cells #[.int .i64 0, .int .i64 0, .string (⟨#[]⟩ : ByteArray)] 23 (0, 0))) := ⟨by rw [hw]; exact far3 B6.out N7.out⟩; replace B7 : Aside0 (w4.heap[b7]? = some (.cells #[.int .i64 2, .int .i64 0, .string (⟨#[]⟩ : ByteArray)] 23 (0, 0))) := ⟨by rw [hw]; exact blk3 B7.out⟩; clear hw q60 z60 q61 z61 q62 z62 q70 z70 q71 z71 q72 z72; have q60 := (blk_cell B6.out 0).trans rfl; have z60 := blk_frozen B6.out 0; have q61 := (blk_cell B6.out 1).trans rfl; have z61 := blk_frozen B6.out 1; have q62 := (blk_cell B6.out 2).trans rfl; have z62 := blk_frozen B6.out 2; have q70 := (blk_cell B7.out 0).trans rfl; have z70 := blk_frozen B7.out 0; have q71 := (blk_cell B7.out 1).trans rfl; have z71 := blk_frozen B7.out 1; have q72 := (blk_cell B7.out 2).trans rfl; have z72 := blk_frozen B7.out 2))
          exact ⟨rfl, Reads.upped HK.out HB.out⟩
        | ok p =>
          obtain ⟨b, r3⟩ := p
          have er : termR 14 0 rest = .ok (⟨2, 0, strOf b⟩, r3) := by rw [termR_go hn (by decide), if_neg (by decide), if_neg (by decide), if_pos rfl, Rd.then_ok hm, Int.toNat_natCast, Rd.then_ok hq]; rfl
          rw [er]
          have HN3 := Aside0.mk (show ∀ e w' W, Reads w0 W rb (takeR m r2) (ValB w0) e w' → ∃ v, e = .returned v ∧ ValB w0 b w' v ∧ Rst w0 w' rb r3 ∧ KeepBut W w' rb none from fun e w' W hr => by rw [hq] at hr; exact hr.okv)
          clear hn hm hq er m0 m1 m2
          go_enter Tryd.func67, Tryd.ntmps67
          go_wp2_with (first
            | ((with_reducible refine gate_dst (N := 6) rfl ?_); refine box_event ?hg (N := 6) ?hd (cs := #[.int .i64 0, .int .i64 0, .string (⟨#[]⟩ : ByteArray)]) (t := 23) ?hr ?_; (case hd => rfl); (case hg => rfl); (case hr => first | (go_simp; done) | (go_simp; rfl)); intro b6 hb6 wb6 hbox hb; have H1 := Aside0.mk (HS.out.up hb); have B6 := Aside0.mk hbox; have G6 := Aside0.mk (show w.heap.size ≤ b6 by have := (HS.out.keep).1; omega); have LT6 := Aside0.mk (blk_lt hbox); clear hb6 hbox hb; have q60 := (blk_cell B6.out 0).trans rfl; have q61 := (blk_cell B6.out 1).trans rfl; have q62 := (blk_cell B6.out 2).trans rfl; have z60 := blk_frozen B6.out 0; have z61 := blk_frozen B6.out 1; have z62 := blk_frozen B6.out 2)
            | (go_at_call 69; (with_reducible refine ((small_calls w0 _ rb r1 0 64 hby1 H4.out.st).mono (fun e w' hr => (HN2.out e w' _ hr))).mono ?_); rintro e w5 ⟨v, rfl, rfl, hs, hk⟩; replace B6 := Aside0.mk (H4.out.blk B6.out G6.out hk); replace B7 := Aside0.mk (H4.out.blk B7.out G7.out hk); have H5 := Aside0.mk (H4.out.call hs hk); clear hs hk)
            | (go_at_call 68; (with_reducible refine ((take_calls w0 _ rb r2 m HM.out H5.out.st).mono (fun e w' hr => (HN3.out e w' _ hr))).mono ?_); rintro e w6 ⟨v, rfl, ⟨A, c, rfl, hA⟩, hs, hk⟩; replace B6 := Aside0.mk (H5.out.blk B6.out G6.out hk); replace B7 := Aside0.mk (H5.out.blk B7.out G7.out hk); have H6 := Aside0.mk (H5.out.call hs hk); have hstr := string_of_reads (P := Tryd.prog) (src := 27) (dst := 9) (c := c) Tryd.underlying27 Tryd.underlying5 Tryd.underlying9 (hA.below hs.below); have hne67 := N7.out; have hne76 := Ne.symm N7.out; clear hs hk hA q60 z60 q61 z61 q62 z62 q70 z70 q71 z71 q72 z72; have q60 := (blk_cell B6.out 0).trans rfl; have z60 := blk_frozen B6.out 0; have q61 := (blk_cell B6.out 1).trans rfl; have z61 := blk_frozen B6.out 1; have q62 := (blk_cell B6.out 2).trans rfl; have z62 := blk_frozen B6.out 2; have q70 := (blk_cell B7.out 0).trans rfl; have z70 := blk_frozen B7.out 0; have q71 := (blk_cell B7.out 1).trans rfl; have z71 := blk_frozen B7.out 1; have q72 := (blk_cell B7.out 2).trans rfl; have z72 := blk_frozen B7.out 2)
            | (go_at_call 96; (with_reducible refine ((number_calls1 w0 _ rb rest hby H1.out.st).mono (fun e w' hr => (HN1.out e w' _ hr))).mono ?_); rintro e w2 ⟨v, rfl, rfl, hs, hk⟩; replace B6 := Aside0.mk (H1.out.blk B6.out G6.out hk); have H2 := Aside0.mk (H1.out.call hs hk); clear hs hk q60 z60 q61 z61 q62 z62; have q60 := (blk_cell B6.out 0).trans rfl; have z60 := blk_frozen B6.out 0; have q61 := (blk_cell B6.out 1).trans rfl; have z61 := blk_frozen B6.out 1; have q62 := (blk_cell B6.out 2).trans rfl; have z62 := blk_frozen B6.out 2)
            | ((with_reducible refine gate_dst (N := 7) rfl ?_); refine box_event ?hg (N := 7) ?hd (cs := #[.int .i64 0, .int .i64 0, .string (⟨#[]⟩ : ByteArray)]) (t := 23) ?hr ?_; (case hd => rfl); (case hg => rfl); (case hr => first | (go_simp; done) | (go_simp; rfl)); intro b7 hb7 wb7 hbox hb; have H3 := Aside0.mk (H2.out.up hb); have B7 := Aside0.mk hbox; have G7 := Aside0.mk (show w.heap.size ≤ b7 by have := (H2.out.keep).1; omega); have LT7 := Aside0.mk (blk_lt hbox); have N7 := Aside0.mk (show b6 ≠ b7 by have := blk_lt B6.out; omega); replace B6 := Aside0.mk (blk_below B6.out hb); clear hb7 hbox hb; have q70 := (blk_cell B7.out 0).trans rfl; have q71 := (blk_cell B7.out 1).trans rfl; have q72 := (blk_cell B7.out 2).trans rfl; have z70 := blk_frozen B7.out 0; have z71 := blk_frozen B7.out 1; have z72 := blk_frozen B7.out 2)
            | (go_at_call 66; (with_reducible refine (need_true 63 _).mono ?_); rintro e w4 ⟨rfl, hw⟩; have H4 : Aside0 (RW w0 w w4 rb r1) := ⟨by rw [hw]; exact H3.out.set3 G7.out⟩; replace B6 : Aside0 (w4.heap[b6]? = some (.cells #[.int .i64 0, .int .i64 0, .string (⟨#[]⟩ : ByteArray)] 23 (0, 0))) := ⟨by rw [hw]; exact far3 B6.out N7.out⟩; replace B7 : Aside0 (w4.heap[b7]? = some (.cells #[.int .i64 2, .int .i64 0, .string (⟨#[]⟩ : ByteArray)] 23 (0, 0))) := ⟨by rw [hw]; exact blk3 B7.out⟩; clear hw q60 z60 q61 z61 q62 z62 q70 z70 q71 z71 q72 z72; have q60 := (blk_cell B6.out 0).trans rfl; have z60 := blk_frozen B6.out 0; have q61 := (blk_cell B6.out 1).trans rfl; have z61 := blk_frozen B6.out 1; have q62 := (blk_cell B6.out 2).trans rfl; have z62 := blk_frozen B6.out 2; have q70 := (blk_cell B7.out 0).trans rfl; have z70 := blk_frozen B7.out 0; have q71 := (blk_cell B7.out 1).trans rfl; have z71 := blk_frozen B7.out 1; have q72 := (blk_cell B7.out 2).trans rfl; have z72 := blk_frozen B7.out 2))
          refine bodyPost_ret (results_cell_row rfl _ _ b6 23 #[(.int .i64 2), (.int .i64 0), (.string (strOf b))] (0, 0) _ rfl (blk3 (far1 B6.out N7.out)) Tryd.underlying23 rfl (by kernel_rfl)) rfl ?_
          exact Reads.give ((H6.out.set G7.out 2 (.string (strOf b))).set3 G6.out).keep ((H6.out.set G7.out 2 (.string (strOf b))).set3 G6.out).st rfl
    by_cases h3 : n = 3
    · subst h3
      clear n0 n1
      have hbit : bits BinOp.and IntKind.i64 1 1 = 1 := by decide
      cases hm : natR r1 with
      | error c =>
        have er : termR 14 0 rest = .error c := by rw [termR_go hn (by decide), if_neg (by decide), if_pos rfl, Rd.then_err hm]
        rw [er]
        have HN2 := Aside0.mk (show ∀ e w' W, Reads w0 W rb (natR r1) (ValI .i64) e w' → e = gaveUp c ∧ KeepBut W w' rb none ∧ Below w0.heap.size w0 w' from fun e w' W hr => by rw [hm] at hr; exact hr.nov)
        clear hn hm er
        go_enter Tryd.func67, Tryd.ntmps67
        go_wp2_with (first
          | ((with_reducible refine gate_dst (N := 6) rfl ?_); refine box_event ?hg (N := 6) ?hd (cs := #[.int .i64 0, .int .i64 0, .string (⟨#[]⟩ : ByteArray)]) (t := 23) ?hr ?_; (case hd => rfl); (case hg => rfl); (case hr => first | (go_simp; done) | (go_simp; rfl)); intro b6 hb6 wb6 hbox hb; have H1 := Aside0.mk (HS.out.up hb); have B6 := Aside0.mk hbox; have G6 := Aside0.mk (show w.heap.size ≤ b6 by have := (HS.out.keep).1; omega); have LT6 := Aside0.mk (blk_lt hbox); clear hb6 hbox hb; have q60 := (blk_cell B6.out 0).trans rfl; have q61 := (blk_cell B6.out 1).trans rfl; have q62 := (blk_cell B6.out 2).trans rfl; have z60 := blk_frozen B6.out 0; have z61 := blk_frozen B6.out 1; have z62 := blk_frozen B6.out 2)
          | (go_at_call 97; (with_reducible refine ((natural_calls w0 _ rb r1 hby1 H4.out.st).mono (fun e w' hr => (HN2.out e w' _ hr))).mono ?_); rintro e w5 ⟨rfl, hk, hb⟩; have HK := Aside0.mk (H4.out.ups hk); have HB := Aside0.mk hb; clear hk hb)
          | (go_at_call 96; (with_reducible refine ((number_calls1 w0 _ rb rest hby H1.out.st).mono (fun e w' hr => (HN1.out e w' _ hr))).mono ?_); rintro e w2 ⟨v, rfl, rfl, hs, hk⟩; replace B6 := Aside0.mk (H1.out.blk B6.out G6.out hk); have H2 := Aside0.mk (H1.out.call hs hk); clear hs hk q60 z60 q61 z61 q62 z62; have q60 := (blk_cell B6.out 0).trans rfl; have z60 := blk_frozen B6.out 0; have q61 := (blk_cell B6.out 1).trans rfl; have z61 := blk_frozen B6.out 1; have q62 := (blk_cell B6.out 2).trans rfl; have z62 := blk_frozen B6.out 2)
          | ((with_reducible refine gate_dst (N := 7) rfl ?_); refine box_event ?hg (N := 7) ?hd (cs := #[.int .i64 0, .int .i64 0, .string (⟨#[]⟩ : ByteArray)]) (t := 23) ?hr ?_; (case hd => rfl); (case hg => rfl); (case hr => first | (go_simp; done) | (go_simp; rfl)); intro b7 hb7 wb7 hbox hb; have H3 := Aside0.mk (H2.out.up hb); have B7 := Aside0.mk hbox; have G7 := Aside0.mk (show w.heap.size ≤ b7 by have := (H2.out.keep).1; omega); have LT7 := Aside0.mk (blk_lt hbox); have N7 := Aside0.mk (show b6 ≠ b7 by have := blk_lt B6.out; omega); replace B6 := Aside0.mk (blk_below B6.out hb); clear hb7 hbox hb; have q70 := (blk_cell B7.out 0).trans rfl; have q71 := (blk_cell B7.out 1).trans rfl; have q72 := (blk_cell B7.out 2).trans rfl; have z70 := blk_frozen B7.out 0; have z71 := blk_frozen B7.out 1; have z72 := blk_frozen B7.out 2)
          | (go_at_call 66; (with_reducible refine (need_true 63 _).mono ?_); rintro e w4 ⟨rfl, hw⟩; have H4 : Aside0 (RW w0 w w4 rb r1) := ⟨by rw [hw]; exact H3.out.set3 G7.out⟩; replace B6 : Aside0 (w4.heap[b6]? = some (.cells #[.int .i64 0, .int .i64 0, .string (⟨#[]⟩ : ByteArray)] 23 (0, 0))) := ⟨by rw [hw]; exact far3 B6.out N7.out⟩; replace B7 : Aside0 (w4.heap[b7]? = some (.cells #[.int .i64 3, .int .i64 0, .string (⟨#[]⟩ : ByteArray)] 23 (0, 0))) := ⟨by rw [hw]; exact blk3 B7.out⟩; clear hw q60 z60 q61 z61 q62 z62 q70 z70 q71 z71 q72 z72; have q60 := (blk_cell B6.out 0).trans rfl; have z60 := blk_frozen B6.out 0; have q61 := (blk_cell B6.out 1).trans rfl; have z61 := blk_frozen B6.out 1; have q62 := (blk_cell B6.out 2).trans rfl; have z62 := blk_frozen B6.out 2; have q70 := (blk_cell B7.out 0).trans rfl; have z70 := blk_frozen B7.out 0; have q71 := (blk_cell B7.out 1).trans rfl; have z71 := blk_frozen B7.out 1; have q72 := (blk_cell B7.out 2).trans rfl; have z72 := blk_frozen B7.out 2))
        exact ⟨rfl, Reads.upped HK.out HB.out⟩
      | ok p =>
        obtain ⟨m, r2⟩ := p
        have er : termR 14 0 rest = .ok (⟨3, m, ⟨#[]⟩⟩, r2) := by rw [termR_go hn (by decide), if_neg (by decide), if_pos rfl, Rd.then_ok hm]; rfl
        rw [er]
        have HN2 := Aside0.mk (show ∀ e w' W, Reads w0 W rb (natR r1) (ValI .i64) e w' → ∃ v, e = .returned v ∧ ValI .i64 m w' v ∧ Rst w0 w' rb r2 ∧ KeepBut W w' rb none from fun e w' W hr => by rw [hm] at hr; exact hr.okv)
        clear hn hm er
        go_enter Tryd.func67, Tryd.ntmps67
        go_wp2_with (first
          | ((with_reducible refine gate_dst (N := 6) rfl ?_); refine box_event ?hg (N := 6) ?hd (cs := #[.int .i64 0, .int .i64 0, .string (⟨#[]⟩ : ByteArray)]) (t := 23) ?hr ?_; (case hd => rfl); (case hg => rfl); (case hr => first | (go_simp; done) | (go_simp; rfl)); intro b6 hb6 wb6 hbox hb; have H1 := Aside0.mk (HS.out.up hb); have B6 := Aside0.mk hbox; have G6 := Aside0.mk (show w.heap.size ≤ b6 by have := (HS.out.keep).1; omega); have LT6 := Aside0.mk (blk_lt hbox); clear hb6 hbox hb; have q60 := (blk_cell B6.out 0).trans rfl; have q61 := (blk_cell B6.out 1).trans rfl; have q62 := (blk_cell B6.out 2).trans rfl; have z60 := blk_frozen B6.out 0; have z61 := blk_frozen B6.out 1; have z62 := blk_frozen B6.out 2)
          | (go_at_call 97; (with_reducible refine ((natural_calls w0 _ rb r1 hby1 H4.out.st).mono (fun e w' hr => (HN2.out e w' _ hr))).mono ?_); rintro e w5 ⟨v, rfl, rfl, hs, hk⟩; replace B6 := Aside0.mk (H4.out.blk B6.out G6.out hk); replace B7 := Aside0.mk (H4.out.blk B7.out G7.out hk); have H5 := Aside0.mk (H4.out.call hs hk); have hne67 := N7.out; have hne76 := Ne.symm N7.out; clear hs hk q60 z60 q61 z61 q62 z62 q70 z70 q71 z71 q72 z72; have q60 := (blk_cell B6.out 0).trans rfl; have z60 := blk_frozen B6.out 0; have q61 := (blk_cell B6.out 1).trans rfl; have z61 := blk_frozen B6.out 1; have q62 := (blk_cell B6.out 2).trans rfl; have z62 := blk_frozen B6.out 2; have q70 := (blk_cell B7.out 0).trans rfl; have z70 := blk_frozen B7.out 0; have q71 := (blk_cell B7.out 1).trans rfl; have z71 := blk_frozen B7.out 1; have q72 := (blk_cell B7.out 2).trans rfl; have z72 := blk_frozen B7.out 2)
          | (go_at_call 96; (with_reducible refine ((number_calls1 w0 _ rb rest hby H1.out.st).mono (fun e w' hr => (HN1.out e w' _ hr))).mono ?_); rintro e w2 ⟨v, rfl, rfl, hs, hk⟩; replace B6 := Aside0.mk (H1.out.blk B6.out G6.out hk); have H2 := Aside0.mk (H1.out.call hs hk); clear hs hk q60 z60 q61 z61 q62 z62; have q60 := (blk_cell B6.out 0).trans rfl; have z60 := blk_frozen B6.out 0; have q61 := (blk_cell B6.out 1).trans rfl; have z61 := blk_frozen B6.out 1; have q62 := (blk_cell B6.out 2).trans rfl; have z62 := blk_frozen B6.out 2)
          | ((with_reducible refine gate_dst (N := 7) rfl ?_); refine box_event ?hg (N := 7) ?hd (cs := #[.int .i64 0, .int .i64 0, .string (⟨#[]⟩ : ByteArray)]) (t := 23) ?hr ?_; (case hd => rfl); (case hg => rfl); (case hr => first | (go_simp; done) | (go_simp; rfl)); intro b7 hb7 wb7 hbox hb; have H3 := Aside0.mk (H2.out.up hb); have B7 := Aside0.mk hbox; have G7 := Aside0.mk (show w.heap.size ≤ b7 by have := (H2.out.keep).1; omega); have LT7 := Aside0.mk (blk_lt hbox); have N7 := Aside0.mk (show b6 ≠ b7 by have := blk_lt B6.out; omega); replace B6 := Aside0.mk (blk_below B6.out hb); clear hb7 hbox hb; have q70 := (blk_cell B7.out 0).trans rfl; have q71 := (blk_cell B7.out 1).trans rfl; have q72 := (blk_cell B7.out 2).trans rfl; have z70 := blk_frozen B7.out 0; have z71 := blk_frozen B7.out 1; have z72 := blk_frozen B7.out 2)
          | (go_at_call 66; (with_reducible refine (need_true 63 _).mono ?_); rintro e w4 ⟨rfl, hw⟩; have H4 : Aside0 (RW w0 w w4 rb r1) := ⟨by rw [hw]; exact H3.out.set3 G7.out⟩; replace B6 : Aside0 (w4.heap[b6]? = some (.cells #[.int .i64 0, .int .i64 0, .string (⟨#[]⟩ : ByteArray)] 23 (0, 0))) := ⟨by rw [hw]; exact far3 B6.out N7.out⟩; replace B7 : Aside0 (w4.heap[b7]? = some (.cells #[.int .i64 3, .int .i64 0, .string (⟨#[]⟩ : ByteArray)] 23 (0, 0))) := ⟨by rw [hw]; exact blk3 B7.out⟩; clear hw q60 z60 q61 z61 q62 z62 q70 z70 q71 z71 q72 z72; have q60 := (blk_cell B6.out 0).trans rfl; have z60 := blk_frozen B6.out 0; have q61 := (blk_cell B6.out 1).trans rfl; have z61 := blk_frozen B6.out 1; have q62 := (blk_cell B6.out 2).trans rfl; have z62 := blk_frozen B6.out 2; have q70 := (blk_cell B7.out 0).trans rfl; have z70 := blk_frozen B7.out 0; have q71 := (blk_cell B7.out 1).trans rfl; have z71 := blk_frozen B7.out 1; have q72 := (blk_cell B7.out 2).trans rfl; have z72 := blk_frozen B7.out 2))
        refine bodyPost_ret (results_cell_row rfl _ _ b6 23 #[(.int .i64 3), (.int .i64 (m)), (.string (⟨#[]⟩ : ByteArray))] (0, 0) _ rfl (blk3 (far1 B6.out N7.out)) Tryd.underlying23 rfl (by kernel_rfl)) rfl ?_
        exact Reads.give ((H5.out.set G7.out 1 (.int .i64 (m))).set3 G6.out).keep ((H5.out.set G7.out 1 (.int .i64 (m))).set3 G6.out).st rfl
    have hk : kindOk 14 n = false := by unfold kindOk; rw [decide_eq_false (show ¬ n ≤ 3 by omega)]; rfl
    have d1 : decide (n ≤ 3) = false := decide_eq_false (by omega)
    have hwr : wrap64 n = n := by simp only [wrap64]; omega
    rw [termR_bad hn hk]
    clear hn hk h0 h1 h2 h3 n0 n1
    go_enter Tryd.func67, Tryd.ntmps67
    go_wp2_with (first
      | ((with_reducible refine gate_dst (N := 6) rfl ?_); refine box_event ?hg (N := 6) ?hd (cs := #[.int .i64 0, .int .i64 0, .string (⟨#[]⟩ : ByteArray)]) (t := 23) ?hr ?_; (case hd => rfl); (case hg => rfl); (case hr => first | (go_simp; done) | (go_simp; rfl)); intro b6 hb6 wb6 hbox hb; have H1 := Aside0.mk (HS.out.up hb); have B6 := Aside0.mk hbox; have G6 := Aside0.mk (show w.heap.size ≤ b6 by have := (HS.out.keep).1; omega); have LT6 := Aside0.mk (blk_lt hbox); clear hb6 hbox hb; have q60 := (blk_cell B6.out 0).trans rfl; have q61 := (blk_cell B6.out 1).trans rfl; have q62 := (blk_cell B6.out 2).trans rfl; have z60 := blk_frozen B6.out 0; have z61 := blk_frozen B6.out 1; have z62 := blk_frozen B6.out 2)
      | (go_at_call 96; (with_reducible refine ((number_calls1 w0 _ rb rest hby H1.out.st).mono (fun e w' hr => (HN1.out e w' _ hr))).mono ?_); rintro e w2 ⟨v, rfl, rfl, hs, hk⟩; replace B6 := Aside0.mk (H1.out.blk B6.out G6.out hk); have H2 := Aside0.mk (H1.out.call hs hk); clear hs hk q60 z60 q61 z61 q62 z62; have q60 := (blk_cell B6.out 0).trans rfl; have z60 := blk_frozen B6.out 0; have q61 := (blk_cell B6.out 1).trans rfl; have z61 := blk_frozen B6.out 1; have q62 := (blk_cell B6.out 2).trans rfl; have z62 := blk_frozen B6.out 2)
      | ((with_reducible refine gate_dst (N := 7) rfl ?_); refine box_event ?hg (N := 7) ?hd (cs := #[.int .i64 0, .int .i64 0, .string (⟨#[]⟩ : ByteArray)]) (t := 23) ?hr ?_; (case hd => rfl); (case hg => rfl); (case hr => first | (go_simp; done) | (go_simp; rfl)); intro b7 hb7 wb7 hbox hb; have H3 := Aside0.mk (H2.out.up hb); have B7 := Aside0.mk hbox; have G7 := Aside0.mk (show w.heap.size ≤ b7 by have := (H2.out.keep).1; omega); have LT7 := Aside0.mk (blk_lt hbox); have N7 := Aside0.mk (show b6 ≠ b7 by have := blk_lt B6.out; omega); replace B6 := Aside0.mk (blk_below B6.out hb); clear hb7 hbox hb; have q70 := (blk_cell B7.out 0).trans rfl; have q71 := (blk_cell B7.out 1).trans rfl; have q72 := (blk_cell B7.out 2).trans rfl; have z70 := blk_frozen B7.out 0; have z71 := blk_frozen B7.out 1; have z72 := blk_frozen B7.out 2)
      | (go_at_call 66; (with_reducible refine (need_false 63 _).mono ?_); rintro e w4 ⟨rfl, hw⟩; have H4 : Aside0 (RW w0 w w4 rb r1) := ⟨by rw [hw]; exact H3.out.set3 G7.out⟩; clear hw))
    exact ⟨rfl, Reads.upped H4.out.keep H4.out.st.below⟩
end Go.Proofs.YtdplpcedfkfajaaDoor.T
/- The walks of codec's value and many at Term. -/
set_option linter.unusedVariables false
set_option linter.unusedSimpArgs false
namespace Go.Proofs.YtdplpcedfkfajaaDoor.T
open Go.RowKit Go.Proofs.YtdplpcedfkfajaaDoorW.PrintWords Go.Proofs.YtdplpcedfkfajaaDoorW.PrintLast
theorem infoTm : (Tryd.prog.info? 23).map (fun i => (i.zero, i.size, i.bytes)) = some (some (.agg #[(.int .i64 0), (.int .i64 0), (.string ⟨#[]⟩)]), 3, 32) := by kernel_rfl
theorem RW.grow {w0 w W W' : World} {rb : Nat} {rest : List Int} {row : Option Nat} (h : RW w0 w W rb rest) (hg : W.grownBy W' row) (hr : ∀ k, row = some k → w.heap.size ≤ k) : RW w0 w W' rb rest := by
  obtain ⟨A, c, hk, hc, hR⟩ := h.st.ex
  have hl := h.lt
  have h0 : w0.heap.size ≤ w.heap.size := Nat.le_trans h.st.at_ (Nat.le_of_lt hl)
  have hne : some rb ≠ row := fun e => by have := hr rb e.symm; omega
  refine ⟨⟨⟨A, c, blk_grown hk hg hne, hc, hR⟩, h.st.below.grown hg h.st.below.size (fun k e => Nat.le_trans h0 (hr k e)), h.st.at_⟩, h.keep.trans (KeepBut.of_grown hg rb) ?_, hl⟩
  cases row with
  | none => exact .inl rfl
  | some b => exact .inr ⟨b, rfl, hr b rfl⟩
theorem Reads.of {α : Type} {w0 w W w' : World} {rb : Nat} {rest : List Int} {r : Except Int (α × List Int)} {val : α → World → Value → Prop} {e : Ending} (h : RW w0 w W rb rest) (hr : Reads w0 W rb r val e w') : Reads w0 w rb r val e w' :=
  ⟨h.ups hr.keep, hr.below, hr.ok, hr.no⟩
theorem termR_bytes {K L : Int} {rest rest' : List Int} {x : Tm} (hby : isBytes rest) (h : termR K L rest = .ok (x, rest')) : isBytes rest' := by
  cases hn : numR 1 rest with
  | error c => rw [termR_err hn] at h; cases h
  | ok p =>
    obtain ⟨n, r1⟩ := p
    obtain ⟨_, _, hb1⟩ := numR_ok hby hn
    cases hk : kindOk K n with
    | false => rw [termR_bad hn hk] at h; cases h
    | true =>
      rw [termR_go hn hk] at h
      by_cases h1 : n = 1
      · rw [if_pos h1] at h
        cases hm : numR 8 r1 with
        | error c => rw [Rd.then_err hm] at h; cases h
        | ok p =>
          obtain ⟨m, r2⟩ := p
          rw [Rd.then_ok hm] at h
          injection h with h; injection h with _ h
          rw [← h]; exact (numR_ok hb1 hm).2.2
      · rw [if_neg h1] at h
        by_cases h3 : n = 3
        · rw [if_pos h3] at h
          cases hm : natR r1 with
          | error c => rw [Rd.then_err hm] at h; cases h
          | ok p =>
            obtain ⟨m, r2⟩ := p
            rw [Rd.then_ok hm] at h
            injection h with h; injection h with _ h
            rw [← h]; exact (natR_ok hb1 hm).2.2
        · rw [if_neg h3] at h
          by_cases h2 : n = 2
          · rw [if_pos h2] at h
            cases hm : smallR L 64 r1 with
            | error c => rw [Rd.then_err hm] at h; cases h
            | ok p =>
              obtain ⟨m, r2⟩ := p
              rw [Rd.then_ok hm] at h
              cases hq : takeR m.toNat r2 with
              | error c => rw [Rd.then_err hq] at h; cases h
              | ok p =>
                obtain ⟨b, r3⟩ := p
                rw [Rd.then_ok hq] at h
                injection h with h; injection h with _ h
                rw [← h]; exact (takeR_ok (smallR_ok hb1 hm).2.2.2 hq).2.2
          · rw [if_neg h2] at h
            injection h with h; injection h with _ h
            rw [← h]; exact hb1
set_option maxHeartbeats 4000000 in
set_option maxRecDepth 100000 in
theorem value_calls (w0 w : World) (rb : Nat) (rest : List Int) (hby : isBytes rest) (h : Rst w0 w rb rest) :
    Calls Tryd.prog 71 #[.pointer (some ⟨rb, 0, none⟩)] w (Reads w0 w rb (termR 14 0 rest) ValT) := by
  have hu23 := Tryd.underlying23
  have HS := Aside0.mk (RW.start h)
  clear h
  cases hn : termR 14 0 rest with
  | error c =>
    have HN1 := Aside0.mk (show ∀ e w' W, Reads w0 W rb (termR 14 0 rest) ValT e w' → e = gaveUp c ∧ KeepBut W w' rb none ∧ Below w0.heap.size w0 w' from fun e w' W hr => by rw [hn] at hr; exact hr.nov)
    clear hn
    go_enter Tryd.func71, Tryd.ntmps71
    go_wp2_with (first
      | ((with_reducible refine gate_dst (N := 2) rfl ?_); refine box_event ?hg (N := 2) ?hd (cs := #[.int .i64 0, .int .i64 0, .string (⟨#[]⟩ : ByteArray)]) (t := 23) ?hr ?_; (case hd => rfl); (case hg => rfl); (case hr => first | (go_simp; done) | (go_simp; rfl)); intro b2 hb2 w1 hbox hb; have B2 := Aside0.mk hbox; have H1 := Aside0.mk (HS.out.up hb); have G2 := Aside0.mk (show w.heap.size ≤ b2 by omega); clear hb2 hbox hb)
      | (go_at_call 67; (with_reducible refine ((term_calls14 w0 _ rb rest hby H1.out.st).mono (fun e w' hr => (HN1.out e w' _ hr))).mono ?_); rintro e w2 ⟨rfl, hk, hb⟩; have HK := Aside0.mk (H1.out.ups hk); have HB := Aside0.mk hb; clear hk hb))
    exact ⟨rfl, Reads.upped HK.out HB.out⟩
  | ok p =>
    obtain ⟨x, r1⟩ := p
    have HN1 := Aside0.mk (show ∀ e w' W, Reads w0 W rb (termR 14 0 rest) ValT e w' → ∃ v, e = .returned v ∧ ValT x w' v ∧ Rst w0 w' rb r1 ∧ KeepBut W w' rb none from fun e w' W hr => by rw [hn] at hr; exact hr.okv)
    clear hn
    go_enter Tryd.func71, Tryd.ntmps71
    go_wp2_with (first
      | ((with_reducible refine gate_dst (N := 2) rfl ?_); refine box_event ?hg (N := 2) ?hd (cs := #[.int .i64 0, .int .i64 0, .string (⟨#[]⟩ : ByteArray)]) (t := 23) ?hr ?_; (case hd => rfl); (case hg => rfl); (case hr => first | (go_simp; done) | (go_simp; rfl)); intro b2 hb2 w1 hbox hb; have B2 := Aside0.mk hbox; have H1 := Aside0.mk (HS.out.up hb); have G2 := Aside0.mk (show w.heap.size ≤ b2 by omega); clear hb2 hbox hb)
      | (go_at_call 67; (with_reducible refine ((term_calls14 w0 _ rb rest hby H1.out.st).mono (fun e w' hr => (HN1.out e w' _ hr))).mono ?_); rintro e w2 ⟨v, rfl, rfl, hs, hk⟩; replace B2 := Aside0.mk (H1.out.blk B2.out G2.out hk); have H2 := Aside0.mk (H1.out.call hs hk); clear hs hk; have q0 := (blk_cell B2.out 0).trans rfl; have q1 := (blk_cell B2.out 1).trans rfl; have q2 := (blk_cell B2.out 2).trans rfl; have z0 := blk_frozen B2.out 0; have z1 := blk_frozen B2.out 1; have z2 := blk_frozen B2.out 2))
    refine bodyPost_ret (results_cell_row rfl _ _ b2 23 #[.int .i64 x.f0, .int .i64 x.f1, .string x.f2] (0, 0) _ rfl (blk3 B2.out) Tryd.underlying23 rfl (by kernel_rfl)) rfl ?_
    exact Reads.give (H2.out.set3 G2.out).keep (H2.out.set3 G2.out).st rfl
/-- A list that was read: a row of one's own, laid since w. -/
def ValL (w : World) (l : List Tm) (w' : World) (v : Value) : Prop := Kd.R k23 23 w' w.heap.size (fun k => w.heap.size ≤ k) v l
theorem manyR_step_err {α : Type} {one : Rd α} {m : Nat} {r : List Int} {c : Int} (h : one r = .error c) : manyR one (m + 1) r = .error c := by rw [manyR, Rd.then_err h]
theorem manyR_step_ok {α : Type} {one : Rd α} {m : Nat} {r r2 : List Int} {x : α} (h : one r = .ok (x, r2)) : manyR one (m + 1) r = (match manyR one m r2 with | .ok (l, r') => .ok (x :: l, r') | .error c => .error c) := by
  rw [manyR, Rd.then_ok h]
  cases hq : manyR one m r2 with
  | error c => rw [Rd.then_err hq]
  | ok p => obtain ⟨l, r'⟩ := p; rw [Rd.then_ok hq]; rfl
/-- What is still to be read, and what was read ahead of it. -/
def Rest {α : Type} (one : Rd α) (res : Except Int (List α × List Int)) (l0 : List α) (m : Nat) (r : List Int) : Prop := res = (match manyR one m r with | .ok (l, r') => .ok (l0 ++ l, r') | .error c => .error c)
theorem Rest.step {α : Type} {one : Rd α} {res : Except Int (List α × List Int)} {l0 : List α} {m : Nat} {r r2 : List Int} {x : α} (h : Rest one res l0 (m + 1) r) (hx : one r = .ok (x, r2)) : Rest one res (l0 ++ [x]) m r2 := by
  unfold Rest at h ⊢
  rw [h, manyR_step_ok hx]
  cases manyR one m r2 with
  | error c => rfl
  | ok p => obtain ⟨l, r'⟩ := p; simp
theorem Rest.bad {α : Type} {one : Rd α} {res : Except Int (List α × List Int)} {l0 : List α} {m : Nat} {r : List Int} {c : Int} (h : Rest one res l0 (m + 1) r) (hx : one r = .error c) : res = .error c := by
  unfold Rest at h
  rw [h, manyR_step_err hx]
theorem Rest.end_ {α : Type} {one : Rd α} {res : Except Int (List α × List Int)} {l0 : List α} {r : List Int} (h : Rest one res l0 0 r) : res = .ok (l0, r) := by
  unfold Rest at h
  rw [h]
  simp [manyR, Rd.give]
set_option maxHeartbeats 8000000 in
set_option maxRecDepth 100000 in
theorem many_calls (one : Rd Tm) (hob : ∀ r r' x, isBytes r → one r = .ok (x, r') → isBytes r') (w0 w : World) (rb : Nat) (g : Nat) (eg : ∀ args w, (callFunc g args).run Tryd.prog w = .ok (.enter g args) w)
    (hone : ∀ (W : World) (r : List Int), isBytes r → Rst w0 W rb r → Calls Tryd.prog g #[.pointer (some ⟨rb, 0, none⟩)] W (Reads w0 W rb (one r) ValT))
    (rest : List Int) (n : Nat) (hn : n < 4294967296) (hby : isBytes rest) (h : Rst w0 w rb rest) :
    Calls Tryd.prog 70 #[.int .i64 n, .func (.func g) #[.pointer (some ⟨rb, 0, none⟩)] #[]] w (Reads w0 w rb (manyR one n rest) (ValL w)) := by
  have hu23 := Tryd.underlying23
  have HS := Aside0.mk (RW.start h)
  have HBY := Aside0.mk hby
  have HN := Aside0.mk hn
  have HONE := Aside0.mk hone
  have HOB := Aside0.mk hob
  obtain ⟨res, hres⟩ : ∃ res, manyR one n rest = res := ⟨_, rfl⟩
  rw [hres]
  have HR0 := Aside0.mk (show Rest one res [] n rest by unfold Rest; rw [hres]; cases res with | error c => rfl | ok p => rfl)
  clear h hby hn hone hob hres
  go_enter Tryd.func70, Tryd.ntmps70
  go_wp2
  go_loopg [5, 7] n (fun gg s5 s7 wr => ∃ (i : Int) (l0 : List Tm) (r : List Int), Aside0 (0 ≤ i ∧ i ≤ (n : Int) ∧ (n : Int) - i ≤ (gg : Int)) ∧ s7 = .int .i64 i ∧ Aside0 (RW w0 w wr rb r ∧ isBytes r) ∧ Aside0 (Kd.R k23 23 wr w.heap.size (fun k => w.heap.size ≤ k) s5 l0) ∧ Aside0 (l0.length = i.toNat) ∧ Aside0 (Rest one res l0 (n - i.toNat) r))
  case atStart => exact ⟨0, [], rest, ⟨by omega, by omega, by omega⟩, rfl, ⟨HS.out, HBY.out⟩, ⟨Kd.R_nil _ _ _ _ _⟩, ⟨rfl⟩, by simpa using HR0⟩
  case round =>
    obtain ⟨i, l0, r, HI, rfl, HW, HL, HLN, HR⟩ := hrel
    by_cases hlt : i < (n : Int)
    · have hltb : decide (i < (n : Int)) = true := decide_eq_true hlt
      have hpos : 0 ≤ i := HI.out.1
      have HLT := Aside0.mk (show i.toNat < n by omega)
      have HPOS := Aside0.mk hpos
      have hwr : wrap64 (i + 1) = i + 1 := by have := HN.out; simp only [wrap64]; omega
      obtain ⟨m, hm⟩ : ∃ m, n - i.toNat = m + 1 := ⟨n - i.toNat - 1, by have := HLT.out; omega⟩
      have HM := Aside0.mk hm
      have HR' := Aside0.mk (show Rest one res l0 (m + 1) r by rw [← hm]; exact HR.out)
      clear hm
      have hlt' := eq_true hlt
      have hpos' := eq_true hpos
      clear hlt hpos
      cases hx : one r with
      | error c =>
        have HE := Aside0.mk (HR'.out.bad hx)
        have hc := (HONE.out wr r HW.out.2 HW.out.1.st)
        rw [hx] at hc
        have HC := Aside0.mk (hc.mono (fun e w' hr => hr.nov))
        clear hx hc
        go_wp2_with (go_at_fn g; refine HC.out.mono ?_; rintro e w2 ⟨rfl, hk, hb⟩; have HK := Aside0.mk (HW.out.1.ups hk); have HB := Aside0.mk hb; clear hk hb)
        rw [HE.out]
        exact ⟨rfl, Reads.upped HK.out HB.out⟩
      | ok p =>
        obtain ⟨x, r2⟩ := p
        have HR2 := Aside0.mk (HR'.out.step hx)
        have HBY2 := Aside0.mk (HOB.out _ _ _ HW.out.2 hx)
        have hc := (HONE.out wr r HW.out.2 HW.out.1.st)
        rw [hx] at hc
        have HC := Aside0.mk (hc.mono (fun e w' hr => hr.okv))
        clear hx hc
        go_wp2_with (first
          | (go_at_fn g; refine HC.out.mono ?_; rintro e w2 ⟨v, rfl, rfl, hs, hk⟩; have H2 := Aside0.mk (HW.out.1.call hs hk); have HL2 := Aside0.mk (Kd.R_keep HL.out hk (fun k hk' => by have := HW.out.1.lt; omega)); clear hs hk)
          | ((with_reducible refine gate_builtin (b := .append) (xs := #[.tmp 9, .tmp 12]) rfl ?_); at_builtin; refine Kd.R_append k23 (w0 := w2) w.heap.size rfl (.tmp 9) (.tmp 12) 24 23 (.agg #[(.int .i64 0), (.int .i64 0), (.string ⟨#[]⟩)]) 32 rfl Tryd.underlying24 infoTm rfl (by decide) (by omega) u5 l0 x [.int .i64 x.f0, .int .i64 x.f1, .string x.f2] (fun k => w.heap.size ≤ k) (fun _ => False) rfl rfl (k23_mkM _ _ _ x) (fun _ hk => hk.elim) (fun k hk => Nat.le_trans H2.out.keep.1 hk) HL2.out (Below.refl _ _) H2.out.keep.1 (by have := HLN.out; have := HN.out; have := HLT.out; omega) ?_; intro v3 w3 ho hb hg hat; have HL3 := Aside0.mk ho; have H3 := Aside0.mk (H2.out.grow hg (fun k e => HL2.out.1 k e)); clear ho hb hg hat))
        go_roundg (n - (i.toNat + 1))
        case measure => have := HI.out; have := HLT.out; omega
        case rel =>
          have e : (i + 1).toNat = i.toNat + 1 := by have := HPOS.out; omega
          refine ⟨i + 1, l0 ++ [x], r2, ⟨by have := HPOS.out; omega, by have := HLT.out; omega, by have := HLT.out; have := HPOS.out; omega⟩, by first | rfl | (simp [hwr]; done) | go_num, ⟨H3.out, HBY2.out⟩, HL3, ⟨by rw [e, List.length_append, HLN.out]; rfl⟩, ⟨?_⟩⟩
          rw [e, show n - (i.toNat + 1) = m by have := HM.out; omega]
          exact HR2.out
    · have hltb : decide (i < (n : Int)) = false := decide_eq_false hlt
      have HEND := Aside0.mk (show res = .ok (l0, r) from Rest.end_ (by have h0 := HR.out; rwa [show n - i.toNat = 0 by omega] at h0))
      clear hlt
      go_wp2
      go_ret
      rw [HEND.out]
      exact Reads.give HW.out.1.keep HW.out.1.st HL.out
end Go.Proofs.YtdplpcedfkfajaaDoor.T
-- By a program of this session (wip/tools/myprint.py), out of the translation.
namespace Go.Proofs.YtdplpcedfkfajaaDoor.T
open Go.RowKit Go.Proofs.YtdplpcedfkfajaaDoorW.PrintWords Go.Proofs.YtdplpcedfkfajaaDoorW.PrintLast Go.Proofs.YtdplpcedfkfajaaDoorW.PrintMore
attribute [local go_sem] max2_int min2_int max_two min_two max_three min_three max_four min_four   -- for this text's walks alone
set_option linter.unusedVariables false
set_option linter.unusedSimpArgs false

theorem eqA23 (d : Nat) (w : World) (x0 y0 : Int) (x1 y1 : Int) (x2 y2 : ByteArray) :
    (Op.equalIn (d + 2) 23 (.agg #[.int .i64 x0, .int .i64 x1, .string x2]) (.agg #[.int .i64 y0, .int .i64 y1, .string y2])).run Tryd.prog w = .ok (x0 == y0 && (x1 == y1 && (x2.toList == y2.toList))) w := by
  refine eqA_of Tryd.underlying23 (by kernel_rfl) ?_
  refine eqf_cons (by rfl) (by go_simp; rfl) (by go_simp; rfl) (by go_simp) ?_
  refine eqf_cons (by rfl) (by go_simp; rfl) (by go_simp; rfl) (by go_simp) ?_
  exact eqf_last (by rfl) (by go_simp; rfl) (by go_simp; rfl) (by go_simp)
end Go.Proofs.YtdplpcedfkfajaaDoor.T
