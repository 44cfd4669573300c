/- lend, lent: lists of their own with a mark in the room behind; still, kept: are they as they were. -/
import Derived.Test.YtnomgmlfagiffaaDoorT3Mt
import Derived.Test.YtnomgmlfagiffaaDoorT5Mt
import Derived.Test.YtnomgmlfagiffaaDoorGPureMt
import Derived.Test.YtnomgmlfagiffaaDoorT1Mt
import Derived.Test.YtnomgmlfagiffaaDoorT2Mt
import Derived.Test.YtnomgmlfagiffaaDoorGLaidMt
import Derived.Deep.RegionHeld3
import Derived.Deep.DrawnRows
set_option linter.unusedVariables false
set_option linter.unusedSimpArgs false
namespace Go.Proofs.YtnomgmlfagiffaaDoor.T
open Go.RowKit Go.Proofs.YtnomgmlfagiffaaDoorW.PrintWords Go.Proofs.YtnomgmlfagiffaaDoorW.PrintLast
attribute [local go_sem high] eqA23 eqA44
def lateB : Bd := ⟨902, ⟨3, 903, ⟨#[108, 97, 116, 101]⟩⟩⟩
def markT : Tm := ⟨3, 901, ⟨#[109, 97, 114, 107]⟩⟩
theorem R_head {α : Type} {d : Kd α} {e : Nat} {w : World} {base : Nat} {ok : Nat → Prop} {v : Value} {l : List α} (h : d.R e w base ok v l) (hl : 0 < l.length) : ∃ g c, v = .slice (some ⟨g, 0, none⟩) l.length c ∧ l.length ≤ c ∧ base ≤ g := by
  obtain ⟨_, inner, ho, _⟩ := h
  rcases ho.2 with ⟨rfl, h0⟩ | ⟨g', cap, cur, rfl, hb, _, hc, _⟩
  · omega
  · exact ⟨g', cap, rfl, hc, hb⟩
theorem R_C' {α : Type} {d : Kd α} {e : Nat} {w : World} {base : Nat} {ok : Nat → Prop} {A : Option Addr} {n c : Nat} {xs : List α} (h : d.R e w base ok (.slice A n c) xs) : d.C w A xs.length xs := by
  obtain ⟨A', c', he, _, hC⟩ := Kd.R_reads h
  injection he with h1 _ _
  subst h1
  exact hC
theorem add0 (g n : Nat) : (⟨g, 0, none⟩ : Addr).add n = ⟨g, n, none⟩ := by
  unfold Addr.add
  split
  · rename_i h; rw [h]
  · simp
/-- What lies ahead of the mark. -/
theorem C_front {α : Type} {d : Kd α} {w : World} {A : Option Addr} {l : List α} {x : α} (h : d.C w A (l ++ [x]).length (l ++ [x])) : d.C w A l.length l := by
  obtain ⟨h1, h2, h3⟩ := h
  simp only [List.length_append, List.length_singleton] at h2 h3
  refine ⟨rfl, by omega, fun h => ?_⟩
  obtain ⟨ad, e, hc⟩ := h3 (by omega)
  exact ⟨ad, e, fun j p hj => hc j p (by rw [List.getElem?_append_left (List.getElem?_eq_some_iff.1 hj).1]; exact hj)⟩
set_option maxHeartbeats 4000000 in
set_option maxRecDepth 100000 in
theorem lend_calls (A0 : Option Addr) (c0 : Nat) (s : List Bd) (w : World) (hr0 : Kd.C k44 w A0 s.length s) (hc0 : s.length ≤ c0) (hLD : Laid0 w) (ls : s.length < smallN) :
    Calls Tryd.prog 12 #[.slice A0 s.length c0] w fun e w' => ∃ g c, e = .returned (.slice (some ⟨g, 0, none⟩) s.length c) ∧ Kd.R k44 44 w' w.heap.size (fun _ => True) (.slice (some ⟨g, 0, none⟩) (s.length + 1) c) (s ++ [lateB]) ∧ Below w.heap.size w w' := by
  have hu44 := Tryd.underlying44
  have HLD := Aside0.mk hLD
  have HR0 := Aside0.mk hr0
  have HC0 := Aside0.mk hc0
  have HS := Aside0.mk ls
  have hw64 : wrap64 (s.length : Int) = (s.length : Int) := by simp [smallN] at ls; unfold wrap64; omega
  clear hLD hr0 hc0 ls
  go_enter Tryd.func12, Tryd.ntmps12
  go_wp2_with (first
    | ((with_reducible refine gate_builtin (b := .append) (xs := #[.tmp 4, .tmp 5]) rfl ?_); at_builtin; refine Kd.R_append_rows k44 (w0 := w) w.heap.size rfl (.tmp 4) (.tmp 5) 28 44 (.agg #[(.int .i64 0), (.int .i64 0), (.int .i64 0), (.string ⟨#[]⟩)]) 40 rfl Tryd.underlying28 info44 rfl (by decide) (by omega) (.slice none 0 0) ([] : List Bd) s _ _ _ (fun _ => True) (fun _ => False) rfl rfl (Kd.R_nil _ _ _ _ (fun _ => True)) HR0.out (fun _ _ h => h) (fun _ h => h.elim) (fun _ _ => trivial) (Below.refl _ w) (Nat.le_refl _) (by have := HS.out; simp [smallN] at this; simp; omega) ?_; intro v1 w1 ho hb hg hat; have HO1 := Aside0.mk ho; have HB1 := Aside0.mk hb; clear ho hb hg hat; have hg0 : w1.cell? ⟨0, 0, none⟩ = some (.int .i64 902) := (Laid0.up HLD.out HB1.out).1; have hg1 : w1.cell? ⟨0, 1, none⟩ = some (.int .i64 3) := (Laid0.up HLD.out HB1.out).2.1; have hg2 : w1.cell? ⟨0, 2, none⟩ = some (.int .i64 903) := (Laid0.up HLD.out HB1.out).2.2.1; have hg3 : w1.cell? ⟨0, 3, none⟩ = some (.string (⟨#[108, 97, 116, 101]⟩ : ByteArray)) := (Laid0.up HLD.out HB1.out).2.2.2)
    | ((with_reducible refine gate_builtin (b := .append) (xs := #[.tmp 7, .tmp 9]) rfl ?_); at_builtin; refine Kd.R_append k44 (w0 := w) w.heap.size rfl (.tmp 7) (.tmp 9) 28 44 (.agg #[(.int .i64 0), (.int .i64 0), (.int .i64 0), (.string ⟨#[]⟩)]) 40 rfl Tryd.underlying28 info44 rfl (by decide) (by omega) v1 ([] ++ s) lateB [.int .i64 902, .int .i64 3, .int .i64 903, .string (⟨#[108, 97, 116, 101]⟩ : ByteArray)] (fun _ => True) (fun _ => False) rfl rfl (k44_mkM _ _ _ lateB) (fun _ hk => hk.elim) (fun _ _ => trivial) HO1.out HB1.out HB1.out.size (by have := HS.out; simp [smallN] at this; simp; omega) ?_; intro v2 w2 ho hb hg hat; have HO2 := Aside0.mk ho; have HB2 := Aside0.mk hb; clear ho hb hg hat hg0 hg1 hg2 hg3; obtain ⟨g2, c2, e2, hc2, _⟩ := R_head HO2.out (by simp); have hcc : (s.length : Int) ≤ (c2 : Int) := (by simp at hc2; omega); clear hc2; subst e2)
    | go_in)
  go_ret
  refine ⟨g2, c2, rfl, ?_, HB2.out⟩
  have h := HO2.out
  simp only [List.nil_append, List.length_append, List.length_singleton] at h
  exact h
theorem rd_at44 (s : List Bd) (i : Nat) (h : i < s.length) : rd_T44 s (i : Int) = s[i] := by
  unfold rd_T44; simp [List.getD, h]
theorem rd_at23 (s : List Tm) (i : Nat) (h : i < s.length) : rd_T23 s (i : Int) = s[i] := by
  unfold rd_T23; simp [List.getD, h]
theorem wrap_succ (n : Nat) (h : n < smallN) : wrap64 ((n : Int) + 1) = ((n + 1 : Nat) : Int) := by
  simp [smallN] at h; unfold wrap64; omega
theorem bindings_self (s : List Bd) (ls : s.length < smallN) : ∀ k, s.length + 1 ≤ k → hearsaylaw02_bindings.f k s s = some true := by
  intro k hk
  unfold hearsaylaw02_bindings.f
  rw [if_pos rfl]
  suffices h : ∀ (n i k : Nat), s.length = i + n → n + 1 ≤ k → hearsaylaw02_bindings.l0 k s s (i : Int) = some true from h s.length 0 k (by omega) hk
  intro n
  induction n with
  | zero =>
    intro i k hi hk
    obtain ⟨k, rfl⟩ : ∃ m, k = m + 1 := ⟨k - 1, by omega⟩
    rw [hearsaylaw02_bindings.l0, if_neg (by omega)]
  | succ n ih =>
    intro i k hi hk
    obtain ⟨k, rfl⟩ : ∃ m, k = m + 1 := ⟨k - 1, by omega⟩
    rw [hearsaylaw02_bindings.l0, if_pos (by omega), if_pos (by omega), if_pos (by omega), if_neg (by simp), wrap_succ i (by omega)]
    exact ih (i + 1) k (by omega) (by omega)
theorem terms_self (s : List Tm) (ls : s.length < smallN) : ∀ k, s.length + 1 ≤ k → hearsaylaw02_terms.f k s s = some true := by
  intro k hk
  unfold hearsaylaw02_terms.f
  rw [if_pos rfl]
  suffices h : ∀ (n i k : Nat), s.length = i + n → n + 1 ≤ k → hearsaylaw02_terms.l0 k s s (i : Int) = some true from h s.length 0 k (by omega) hk
  intro n
  induction n with
  | zero =>
    intro i k hi hk
    obtain ⟨k, rfl⟩ : ∃ m, k = m + 1 := ⟨k - 1, by omega⟩
    rw [hearsaylaw02_terms.l0, if_neg (by omega)]
  | succ n ih =>
    intro i k hi hk
    obtain ⟨k, rfl⟩ : ∃ m, k = m + 1 := ⟨k - 1, by omega⟩
    rw [hearsaylaw02_terms.l0, if_pos (by omega), if_pos (by omega), if_pos (by omega), if_neg (by simp), wrap_succ i (by omega)]
    exact ih (i + 1) k (by omega) (by omega)
theorem same_self (t : Tm) (nm : ByteArray) (l : List Tm) (ls : l.length < smallN) : ∀ k, l.length + 1 ≤ k → hearsaylaw02_same.f k t.f0 t.f1 t.f2 nm l t.f0 t.f1 t.f2 nm l = some true := by
  intro k hk
  unfold hearsaylaw02_same.f
  rw [if_pos rfl, if_pos (by simp), terms_self l ls k hk]
  rfl
set_option maxHeartbeats 4000000 in
set_option maxRecDepth 100000 in
theorem still_calls (g c : Nat) (A2 : Option Addr) (c2 : Nat) (s : List Bd) (w : World) (base : Nat) (hR : Kd.R k44 44 w base (fun _ => True) (.slice (some ⟨g, 0, none⟩) (s.length + 1) c) (s ++ [lateB])) (hr2 : Kd.C k44 w A2 s.length s) (hc2 : s.length ≤ c2) (hLD : Laid0 w) (ls : s.length < smallN) :
    Calls Tryd.prog 17 #[.slice (some ⟨g, 0, none⟩) s.length c, .slice A2 s.length c2] w fun e w' => e = .returned (.bool true) ∧ Below w.heap.size w w' := by
  have hu44 := Tryd.underlying44
  obtain ⟨g', c', e1, hcc, _⟩ := R_head hR (by simp)
  injection e1 with e2 _ e3
  injection e2 with e2
  injection e2 with e2
  subst e2 e3
  have hC := R_C' hR
  have hC0 : Kd.C k44 w (some ⟨g, 0, none⟩) s.length s := C_front hC
  have hcc1 : s.length ≤ c := by simp at hcc; omega
  have hcc2 : (s.length : Int) + 1 ≤ (c : Int) := by simp at hcc; omega
  have hb := fun k r W h1 h2 => hearsaylaw02_bindings.calls k (some ⟨g, 0, none⟩) c s A2 c2 s r W h1 hcc1 h2 hc2
  have hbs := bindings_self s ls (s.length + 1) (Nat.le_refl _)
  have hbc := hb _ _ w hC0 hr2 hbs
  obtain ⟨ad, ead, hx0, hx1, hx2, hx3⟩ := at_T44 hC (s.length : Int) (by omega) (by simp; omega)
  injection ead with ead
  subst ead
  have hrd : rd_T44 (s ++ [lateB]) (s.length : Int) = lateB := by rw [rd_at44 _ _ (by simp)]; simp
  rw [hrd, Int.toNat_natCast] at hx0 hx1 hx2 hx3
  rw [add0] at hx0 hx1 hx2 hx3
  dsimp only [lateB] at hx0 hx1 hx2 hx3
  obtain ⟨N, hN⟩ : ∃ N : Nat, N = s.length + 1 := ⟨_, rfl⟩
  have hw64 : wrap64 ((s.length : Int) + 1) = (N : Int) := by rw [wrap_succ _ ls, hN]
  have hw65 : IntKind.i64.wrap ((s.length : Int) + 1) = (N : Int) := (i64_w _).trans hw64
  have p1 : (0 : Int) ≤ (N : Int) := by omega
  have p2 : (N : Int) ≤ (c : Int) := by omega
  have p3 : (s.length : Int) < (N : Int) := by omega
  have p4 : s.length < N := by omega
  have HN := Aside0.mk hN
  have HLD := Aside0.mk hLD
  clear hN hcc2 hR hr2 hc2 hC hC0 hcc hb hbs hLD hrd hcc1
  have p0 : (0 : Int) ≤ (s.length : Int) := by omega
  go_enter Tryd.func17, Tryd.ntmps17
  go_wp2_with (go_at_call 16; refine hbc.mono ?_; rintro e w1 ⟨rfl, hd⟩; obtain ⟨nd, rfl⟩ := hd.out; clear hd)
  have hg0 : w.cell? ⟨0, 0, none⟩ = some (.int .i64 902) := HLD.out.1
  have hg1 : w.cell? ⟨0, 1, none⟩ = some (.int .i64 3) := HLD.out.2.1
  have hg2 : w.cell? ⟨0, 2, none⟩ = some (.int .i64 903) := HLD.out.2.2.1
  have hg3 : w.cell? ⟨0, 3, none⟩ = some (.string (⟨#[108, 97, 116, 101]⟩ : ByteArray)) := HLD.out.2.2.2
  go_region_held3 (fun w' => w'.cell? ⟨g, s.length * 4, none⟩ = some (.int .i64 902) ∧ w'.cell? ⟨g, s.length * 4 + 1, none⟩ = some (.int .i64 3) ∧ w'.cell? ⟨g, s.length * 4 + 2, none⟩ = some (.int .i64 903) ∧ w'.cell? ⟨g, s.length * 4 + 3, none⟩ = some (.string (⟨#[108, 97, 116, 101]⟩ : ByteArray)) ∧ w'.cell? ⟨0, 0, none⟩ = some (.int .i64 902) ∧ w'.cell? ⟨0, 1, none⟩ = some (.int .i64 3) ∧ w'.cell? ⟨0, 2, none⟩ = some (.int .i64 903) ∧ w'.cell? ⟨0, 3, none⟩ = some (.string (⟨#[108, 97, 116, 101]⟩ : ByteArray))) (go_keep) (fail)
  go_wp2
  go_ret
  exact ⟨by first | rfl | simp, by repeat (first | exact Below.refl _ _ | apply pw_below_drewN | apply below_drew1)⟩
set_option maxHeartbeats 4000000 in
set_option maxRecDepth 100000 in
theorem lent_calls (t : Tm) (nm : ByteArray) (A0 : Option Addr) (c0 : Nat) (l : List Tm) (w : World) (hr0 : Kd.C k23 w A0 l.length l) (hc0 : l.length ≤ c0) (hLD : Laid1 w) (ls : l.length < smallN) :
    Calls Tryd.prog 13 #[.agg #[.int .i64 t.f0, .int .i64 t.f1, .string t.f2, .string nm, .slice A0 l.length c0]] w fun e w' => ∃ g c, e = .returned (.agg #[.int .i64 t.f0, .int .i64 t.f1, .string t.f2, .string nm, .slice (some ⟨g, 0, none⟩) l.length c]) ∧ Kd.R k23 23 w' w.heap.size (fun _ => True) (.slice (some ⟨g, 0, none⟩) (l.length + 1) c) (l ++ [markT]) ∧ Below w.heap.size w w' := by
  have hu26 := Tryd.underlying26
  have hu23 := Tryd.underlying23
  have HLD := Aside0.mk hLD
  have HR0 := Aside0.mk hr0
  have HC0 := Aside0.mk hc0
  have HS := Aside0.mk ls
  have hw64 : wrap64 (l.length : Int) = (l.length : Int) := by simp [smallN] at ls; unfold wrap64; omega
  clear hLD hr0 hc0 ls
  go_enter Tryd.func13, Tryd.ntmps13
  go_wp2_with (first
    | ((with_reducible refine gate_dst (N := 1) rfl ?_); refine box_event ?hg (N := 1) ?hd (cs := #[.int .i64 t.f0, .int .i64 t.f1, .string t.f2, .string nm, .slice A0 l.length c0]) (t := 26) ?hr ?_; (case hd => rfl); (case hg => rfl); (case hr => first | (go_simp; done) | (go_simp; rfl)); intro ga hga w0 hbox hb; have BA := Aside0.mk hbox; have HB0 := Aside0.mk hb; have GA := Aside0.mk hga; clear hga hbox hb)
    | ((with_reducible refine gate_dst (N := 2) rfl ?_); refine box_event ?hg (N := 2) ?hd (cs := #[.int .i64 0, .int .i64 0, .string ⟨#[]⟩, .string ⟨#[]⟩, .slice none 0 0]) (t := 26) ?hr ?_; (case hd => rfl); (case hg => rfl); (case hr => first | (go_simp; done) | (go_simp; rfl)); intro gr hgr w00 hbox hb; have NE := Aside0.mk (show gr ≠ ga from by rw [hgr]; exact Nat.ne_of_gt (blk_lt BA.out)); have n1_ := Aside0.mk (blk_below BA.out hb); have n2_ := Aside0.mk (below_step HB0.out hb); have n3_ := Aside0.mk hbox; have GR := Aside0.mk (show w.heap.size ≤ gr from by rw [hgr]; exact HB0.out.size); clear hgr hbox hb BA HB0; have BA := n1_; have HB0 := n2_; have BR := n3_; clear n1_ n2_ n3_; have ha4 : w00.cell? ⟨ga, 4, none⟩ = some (.slice A0 l.length c0) := (blk_cell BA.out 4).trans rfl)
    | ((with_reducible refine gate_builtin (b := .append) (xs := #[.tmp 4, .tmp 6]) rfl ?_); at_builtin; refine Kd.R_append_rows k23 (w0 := w) w.heap.size rfl (.tmp 4) (.tmp 6) 24 23 (.agg #[(.int .i64 0), (.int .i64 0), (.string ⟨#[]⟩)]) 32 rfl Tryd.underlying24 info23 rfl (by decide) (by omega) (.slice none 0 0) ([] : List Tm) l _ _ _ (fun k => k ≠ ga ∧ k ≠ gr) (fun _ => False) rfl rfl (Kd.R_nil _ _ _ _ _) (Kd.C_below HR0.out HB0.out) (fun _ _ h => h) (fun _ h => h.elim) (fun k hk => by have h1 := blk_lt BA.out; have h2 := blk_lt BR.out; exact ⟨by omega, by omega⟩) HB0.out HB0.out.size (by have := HS.out; simp [smallN] at this; simp; omega) ?_; intro v1 w1 ho hb hg hat; have HO1 := Aside0.mk ho; have HB1 := Aside0.mk hb; have n1_ := Aside0.mk (blk_grown BA.out hg (by simp [Value.ownBlock])); have n2_ := Aside0.mk (blk_grown BR.out hg (by simp [Value.ownBlock])); clear ho hb hg hat ha4 BA BR; have BA := n1_; have BR := n2_; clear n1_ n2_; have hg0 : w1.cell? ⟨1, 0, none⟩ = some (.int .i64 3) := (Laid1.up HLD.out HB1.out).1; have hg1 : w1.cell? ⟨1, 1, none⟩ = some (.int .i64 901) := (Laid1.up HLD.out HB1.out).2.1; have hg2 : w1.cell? ⟨1, 2, none⟩ = some (.string (⟨#[109, 97, 114, 107]⟩ : ByteArray)) := (Laid1.up HLD.out HB1.out).2.2)
    | ((with_reducible refine gate_builtin (b := .append) (xs := #[.tmp 8, .tmp 10]) rfl ?_); at_builtin; refine Kd.R_append k23 (w0 := w) w.heap.size rfl (.tmp 8) (.tmp 10) 24 23 (.agg #[(.int .i64 0), (.int .i64 0), (.string ⟨#[]⟩)]) 32 rfl Tryd.underlying24 info23 rfl (by decide) (by omega) v1 ([] ++ l) markT [.int .i64 3, .int .i64 901, .string (⟨#[109, 97, 114, 107]⟩ : ByteArray)] (fun k => k ≠ ga ∧ k ≠ gr) (fun _ => False) rfl rfl (k23_mkM _ _ _ markT) (fun _ hk => hk.elim) (fun k hk => by have h1 := blk_lt BA.out; have h2 := blk_lt BR.out; exact ⟨by omega, by omega⟩) HO1.out HB1.out HB1.out.size (by have := HS.out; simp [smallN] at this; simp; omega) ?_; intro v2 w2 ho hb hg hat; have HO2 := Aside0.mk ho; have HB2 := Aside0.mk hb; have n1_ := Aside0.mk (blk_grown BA.out hg (fun e => (HO1.out.1 ga e.symm).1 rfl)); have n2_ := Aside0.mk (blk_grown BR.out hg (fun e => (HO1.out.1 gr e.symm).2 rfl)); clear ho hb hg hat hg0 hg1 hg2 BA BR; have BA := n1_; have BR := n2_; clear n1_ n2_; have ca0 := (blk_cell BA.out 0).trans rfl; have fa0 := blk_frozen BA.out 0; have cr0 := (blk_cell BR.out 0).trans rfl; have fr0 := blk_frozen BR.out 0; have ca1 := (blk_cell BA.out 1).trans rfl; have fa1 := blk_frozen BA.out 1; have cr1 := (blk_cell BR.out 1).trans rfl; have fr1 := blk_frozen BR.out 1; have ca2 := (blk_cell BA.out 2).trans rfl; have fa2 := blk_frozen BA.out 2; have cr2 := (blk_cell BR.out 2).trans rfl; have fr2 := blk_frozen BR.out 2; have ca3 := (blk_cell BA.out 3).trans rfl; have fa3 := blk_frozen BA.out 3; have cr3 := (blk_cell BR.out 3).trans rfl; have fr3 := blk_frozen BR.out 3; have ca4 := (blk_cell BA.out 4).trans rfl; have fa4 := blk_frozen BA.out 4; have cr4 := (blk_cell BR.out 4).trans rfl; have fr4 := blk_frozen BR.out 4; have hne1 := NE.out; have hne2 := Ne.symm NE.out;  obtain ⟨g2, c2, e2, hc2, _⟩ := R_head HO2.out (by simp); have hcc : (l.length : Int) ≤ (c2 : Int) := (by simp at hc2; omega); clear hc2; subst e2)
    | go_in)
  refine bodyPost_ret (results_cell_row rfl _ _ gr 26 #[.int .i64 t.f0, .int .i64 t.f1, .string t.f2, .string nm, .slice (some ⟨g2, 0, none⟩) l.length c2] (0, 0) _ rfl (by refine blk_put (cs := #[.int .i64 t.f0, .int .i64 t.f1, .string t.f2, .string nm, .slice none 0 0]) ?_ 4 _ rfl; refine blk_put (cs := #[.int .i64 t.f0, .int .i64 t.f1, .string t.f2, .string ⟨#[]⟩, .slice none 0 0]) ?_ 3 _ rfl; refine blk_put (cs := #[.int .i64 t.f0, .int .i64 t.f1, .string ⟨#[]⟩, .string ⟨#[]⟩, .slice none 0 0]) ?_ 2 _ rfl; refine blk_put (cs := #[.int .i64 t.f0, .int .i64 0, .string ⟨#[]⟩, .string ⟨#[]⟩, .slice none 0 0]) ?_ 1 _ rfl; refine blk_put (cs := #[.int .i64 0, .int .i64 0, .string ⟨#[]⟩, .string ⟨#[]⟩, .slice none 0 0]) ?_ 0 _ rfl; refine blk_far ?_ NE.out _; exact BR.out) Tryd.underlying26 rfl (by kernel_rfl)) rfl ?_
  refine ⟨g2, c2, rfl, ?_, ?_⟩
  · have h := HO2.out
    simp only [List.nil_append, List.length_append, List.length_singleton] at h
    refine Kd.R_mono (ok := fun k => k ≠ ga ∧ k ≠ gr) ?_ (fun _ _ => trivial)
    exact Kd.R_far (Kd.R_far (Kd.R_far (Kd.R_far (Kd.R_far (Kd.R_far h (p := ⟨ga, 4, none⟩) (fun k hk => hk.1) _) (p := ⟨gr, 0, none⟩) (fun k hk => hk.2) _) (p := ⟨gr, 1, none⟩) (fun k hk => hk.2) _) (p := ⟨gr, 2, none⟩) (fun k hk => hk.2) _) (p := ⟨gr, 3, none⟩) (fun k hk => hk.2) _) (p := ⟨gr, 4, none⟩) (fun k hk => hk.2) _
  · have hga : w.heap.size ≤ ga := by rw [GA.out]; exact Nat.le_refl _
    exact below_set (below_set (below_set (below_set (below_set (below_set HB2.out hga) GR.out) GR.out) GR.out) GR.out) GR.out
set_option maxHeartbeats 4000000 in
set_option maxRecDepth 100000 in
theorem kept_calls (t : Tm) (nm : ByteArray) (g c : Nat) (A2 : Option Addr) (c2 : Nat) (l : List Tm) (w : World) (base : Nat) (hR : Kd.R k23 23 w base (fun _ => True) (.slice (some ⟨g, 0, none⟩) (l.length + 1) c) (l ++ [markT])) (hr2 : Kd.C k23 w A2 l.length l) (hc2 : l.length ≤ c2) (hLD : Laid1 w) (ls : l.length < smallN) :
    Calls Tryd.prog 18 #[.agg #[.int .i64 t.f0, .int .i64 t.f1, .string t.f2, .string nm, .slice (some ⟨g, 0, none⟩) l.length c], .agg #[.int .i64 t.f0, .int .i64 t.f1, .string t.f2, .string nm, .slice A2 l.length c2]] w fun e w' => e = .returned (.bool true) ∧ Below w.heap.size w w' := by
  have hu26 := Tryd.underlying26
  have hu23 := Tryd.underlying23
  obtain ⟨g', c', e1, hcc, _⟩ := R_head hR (by simp)
  injection e1 with e2 _ e3
  injection e2 with e2
  injection e2 with e2
  subst e2 e3
  have hC := R_C' hR
  have hC0 : Kd.C k23 w (some ⟨g, 0, none⟩) l.length l := C_front hC
  have hcc1 : l.length ≤ c := by simp at hcc; omega
  have hcc2 : (l.length : Int) + 1 ≤ (c : Int) := by simp at hcc; omega
  have hb := fun W h1 h2 => hearsaylaw02_same.calls (l.length + 1) t.f0 t.f1 t.f2 nm (some ⟨g, 0, none⟩) c l t.f0 t.f1 t.f2 nm A2 c2 l true W h1 hcc1 h2 hc2 (same_self t nm l ls (l.length + 1) (Nat.le_refl _))
  have hbc := hb _ (Kd.C_below hC0 (below_alloc (below_alloc (Below.refl _ w) (.cells #[.int .i64 t.f0, .int .i64 t.f1, .string t.f2, .string nm, .slice (some ⟨g, 0, none⟩) l.length c] 26 (0, 0))) (.cells #[.int .i64 t.f0, .int .i64 t.f1, .string t.f2, .string nm, .slice A2 l.length c2] 26 (0, 0)))) (Kd.C_below hr2 (below_alloc (below_alloc (Below.refl _ w) _) _))
  obtain ⟨ad, ead, hx0, hx1, hx2⟩ := at_T23 hC (l.length : Int) (by omega) (by simp; omega)
  injection ead with ead
  subst ead
  have hrd : rd_T23 (l ++ [markT]) (l.length : Int) = markT := by rw [rd_at23 _ _ (by simp)]; simp
  rw [hrd, Int.toNat_natCast] at hx0 hx1 hx2
  rw [add0] at hx0 hx1 hx2
  dsimp only [markT] at hx0 hx1 hx2
  obtain ⟨N, hN⟩ : ∃ N : Nat, N = l.length + 1 := ⟨_, rfl⟩
  have hw64 : wrap64 ((l.length : Int) + 1) = (N : Int) := by rw [wrap_succ _ ls, hN]
  have hw65 : IntKind.i64.wrap ((l.length : Int) + 1) = (N : Int) := (i64_w _).trans hw64
  have p1 : (0 : Int) ≤ (N : Int) := by omega
  have p2 : (N : Int) ≤ (c : Int) := by omega
  have p3 : (l.length : Int) < (N : Int) := by omega
  have p4 : l.length < N := by omega
  have HN := Aside0.mk hN
  have HLD := Aside0.mk hLD
  have HX0 := Aside0.mk hx0
  have HX1 := Aside0.mk hx1
  have HX2 := Aside0.mk hx2
  clear hN hcc2 hR hr2 hc2 hC hC0 hcc hb hLD hrd hcc1 hx0 hx1 hx2
  have p0 : (0 : Int) ≤ (l.length : Int) := by omega
  go_enter Tryd.func18, Tryd.ntmps18
  go_wp2_with (go_at_call 22; refine hbc.mono ?_; rintro e w1 ⟨rfl, hb1⟩; have HB1 := Aside0.mk (below_step (below_alloc (below_alloc (Below.refl _ w) _) _) hb1); have BA := Aside0.mk (blk_below (blk_alloc (blk_new w _) _) hb1); clear hb1; have ca4 : w1.cell? ⟨w.heap.size, 4, none⟩ = some (.slice (some ⟨g, 0, none⟩) l.length c) := (blk_cell BA.out 4).trans rfl; have hx0 := (HB1.out.cell (World.block_lt_of_cell? w _ HX0.out)).trans HX0.out; have hx1 := (HB1.out.cell (World.block_lt_of_cell? w _ HX1.out)).trans HX1.out; have hx2 := (HB1.out.cell (World.block_lt_of_cell? w _ HX2.out)).trans HX2.out)
  have hg0 : w1.cell? ⟨1, 0, none⟩ = some (.int .i64 3) := (Laid1.up HLD.out HB1.out).1
  have hg1 : w1.cell? ⟨1, 1, none⟩ = some (.int .i64 901) := (Laid1.up HLD.out HB1.out).2.1
  have hg2 : w1.cell? ⟨1, 2, none⟩ = some (.string (⟨#[109, 97, 114, 107]⟩ : ByteArray)) := (Laid1.up HLD.out HB1.out).2.2
  go_region_held3 (fun w' => w'.cell? ⟨g, l.length * 3, none⟩ = some (.int .i64 3) ∧ w'.cell? ⟨g, l.length * 3 + 1, none⟩ = some (.int .i64 901) ∧ w'.cell? ⟨g, l.length * 3 + 2, none⟩ = some (.string (⟨#[109, 97, 114, 107]⟩ : ByteArray)) ∧ w'.cell? ⟨1, 0, none⟩ = some (.int .i64 3) ∧ w'.cell? ⟨1, 1, none⟩ = some (.int .i64 901) ∧ w'.cell? ⟨1, 2, none⟩ = some (.string (⟨#[109, 97, 114, 107]⟩ : ByteArray))) (go_keep) (fail)
  go_wp2
  go_ret
  exact ⟨by first | rfl | simp, by repeat (first | exact HB1.out | apply pw_below_drewN | apply below_drew1)⟩
theorem R_room {α : Type} {d : Kd α} {e : Nat} {w : World} {base : Nat} {ok : Nat → Prop} {g n c : Nat} {l : List α} (h : d.R e w base ok (.slice (some ⟨g, 0, none⟩) n c) l) (hl : 0 < l.length) : l.length ≤ c := by
  obtain ⟨g', c', e1, hc, _⟩ := R_head h hl
  injection e1 with _ _ e3
  rw [e3]; exact hc
theorem R_cap {α : Type} {d : Kd α} {e : Nat} {w : World} {base : Nat} {ok : Nat → Prop} {A : Option Addr} {n c : Nat} {l : List α} (h : d.R e w base ok (.slice A n c) l) : l.length ≤ c := by
  obtain ⟨A', c', he, hl, _⟩ := Kd.R_reads h
  injection he with _ _ e3
  rw [e3]; exact hl
end Go.Proofs.YtnomgmlfagiffaaDoor.T
