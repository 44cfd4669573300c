/- PureA; GSpare; PureB; PureC; PureM; GFunc; PureSm; GCls; GTop: texts of this claim, laid together. -/
import Derived.Test.YtnomgmlfagiffaaDoorM0Ud
import Derived.Test.YtnomgmlfagiffaaDoorM6Ud
import Derived.Test.YtnomgmlfagiffaaDoorM7Ud
import Derived.Deep.RegionHeld3
import Derived.Deep.DrawnRows
import Derived.Test.YtnomgmlfagiffaaDoorM3Ud
import Derived.Test.YtnomgmlfagiffaaDoorM4Ud
import Derived.Below
import Derived.WalkKit
import Derived.Lib.Walk
import Derived.Deep.LoopGhost
import Derived.Shelf.Abstract
import Derived.Deep.Draws
import Derived.Test.YtnomgmlfagiffaaDoorM1Ud
import Derived.Maps.Views
import Derived.DeepKeys5
/- What the printed functions of package term answer, in closed form. -/
set_option linter.unusedVariables false
set_option linter.unusedSimpArgs false
namespace Go.Proofs.YtnomgmlfagiffaaDoor.T
open Go.RowKit Go.Lib Go.Proofs.YtnomgmlfagiffaaDoorW.PrintWords Go.Proofs.YtnomgmlfagiffaaDoor.Hs
def isConst (t : Tm) : Bool := (decide (t.f0 = 1) && (t.f2.toList == ([] : List UInt8))) || (decide (t.f0 = 2) && (decide (t.f1 = 0) && decide ((t.f2.size : Int) ≤ 64)))
theorem const_f (t : Tm) : term_Const.f t.f0 t.f1 t.f2 = some (isConst t) := by
  unfold term_Const.f isConst
  by_cases h : t.f0 = 1
  · simp [h]
  · by_cases h2 : t.f0 = 2
    · by_cases h3 : t.f1 = 0 <;> simp [h2, h3]
    · simp [h, h2]
def isPrin (t : Tm) : Bool := isConst t && (decide (t.f0 = 2) && (t.f2.toList != ([] : List UInt8)))
theorem prin_f (t : Tm) : term_Principal.f t.f0 t.f1 t.f2 = some (isPrin t) := by
  unfold term_Principal.f isPrin
  rw [const_f]
  cases isConst t
  · simp
  · by_cases h : t.f0 = 2 <;> simp [h]
theorem orI_f (a b c : Int) (k : Nat) : cmp_Or_int.f (k + 4) [a, b, c] = some (orI a (orI b c)) := by
  unfold cmp_Or_int.f orI
  by_cases ha : a = 0
  · by_cases hb : b = 0
    · by_cases hc : c = 0
      · simp [cmp_Or_int.l0, rd, wrap64, ha, hb, hc]
      · simp [cmp_Or_int.l0, rd, wrap64, ha, hb, hc]
    · simp [cmp_Or_int.l0, rd, wrap64, ha, hb]
  · simp [cmp_Or_int.l0, rd, wrap64, ha]
def cmpT (a b : Tm) : Int := orI (compareInt a.f0 b.f0) (orI (compareInt a.f1 b.f1) (compareBytes a.f2.toList b.f2.toList))
theorem cmpInt_f (x y : Int) : cmp_Compare_int.f x y = some (compareInt x y) := by
  rw [cmp_f]
  unfold compareInt
  split
  · rfl
  · split
    · rfl
    · rfl
theorem cmpStr_f (x y : ByteArray) : strings_Compare.f x y = some (compareBytes x.toList y.toList) := by
  unfold strings_Compare.f bytealg_CompareString.f
  simp [toList_data]
theorem cmpT_f (a b : Tm) (k : Nat) : term_Compare.f (k + 4) a.f0 a.f1 a.f2 b.f0 b.f1 b.f2 = some (cmpT a b) := by
  unfold term_Compare.f cmpT
  rw [cmpInt_f, cmpInt_f, cmpStr_f]
  simp only [Option.bind_some]
  rw [orI_f]
  rfl
theorem ba_ext {a b : ByteArray} (h : a.toList = b.toList) : a = b := by
  rw [toList_data, toList_data] at h
  exact WideShapes.bytes_inj h
theorem eqT_iff (a b : Tm) : eqT a b = true ↔ a = b := by
  unfold eqT
  simp only [Bool.and_eq_true, beq_iff_eq]
  constructor
  · rintro ⟨h0, h1, h2⟩
    cases a; cases b
    simp only at h0 h1 h2
    subst h0 h1
    rw [ba_ext h2]
  · rintro rfl
    exact ⟨rfl, rfl, rfl⟩
end Go.Proofs.YtnomgmlfagiffaaDoor.T
/- lend, lent: lists of their own with a mark in the room behind; still, kept: are they as they were. -/
set_option linter.unusedVariables false
set_option linter.unusedSimpArgs false
namespace Go.Proofs.YtnomgmlfagiffaaDoor.T
open Go.RowKit Go.Proofs.YtnomgmlfagiffaaDoorW.PrintWords Go.Proofs.YtnomgmlfagiffaaDoorW.PrintLast
attribute [local go_sem high] eqA23 eqA44
def markT : Tm := ⟨3, 901, ⟨#[109, 97, 114, 107]⟩⟩
theorem R_head {α : Type} {d : Kd α} {e : Nat} {w : World} {base : Nat} {ok : Nat → Prop} {v : Value} {l : List α} (h : d.R e w base ok v l) (hl : 0 < l.length) : ∃ g c, v = .slice (some ⟨g, 0, none⟩) l.length c ∧ l.length ≤ c ∧ base ≤ g := by
  obtain ⟨_, inner, ho, _⟩ := h
  rcases ho.2 with ⟨rfl, h0⟩ | ⟨g', cap, cur, rfl, hb, _, hc, _⟩
  · omega
  · exact ⟨g', cap, rfl, hc, hb⟩
theorem R_C' {α : Type} {d : Kd α} {e : Nat} {w : World} {base : Nat} {ok : Nat → Prop} {A : Option Addr} {n c : Nat} {xs : List α} (h : d.R e w base ok (.slice A n c) xs) : d.C w A xs.length xs := by
  obtain ⟨A', c', he, _, hC⟩ := Kd.R_reads h
  injection he with h1 _ _
  subst h1
  exact hC
theorem add0 (g n : Nat) : (⟨g, 0, none⟩ : Addr).add n = ⟨g, n, none⟩ := by
  unfold Addr.add
  split
  · rename_i h; rw [h]
  · simp
/-- What lies ahead of the mark. -/
theorem C_front {α : Type} {d : Kd α} {w : World} {A : Option Addr} {l : List α} {x : α} (h : d.C w A (l ++ [x]).length (l ++ [x])) : d.C w A l.length l := by
  obtain ⟨h1, h2, h3⟩ := h
  simp only [List.length_append, List.length_singleton] at h2 h3
  refine ⟨rfl, by omega, fun h => ?_⟩
  obtain ⟨ad, e, hc⟩ := h3 (by omega)
  exact ⟨ad, e, fun j p hj => hc j p (by rw [List.getElem?_append_left (List.getElem?_eq_some_iff.1 hj).1]; exact hj)⟩
theorem rd_at44 (s : List Bd) (i : Nat) (h : i < s.length) : rd_T44 s (i : Int) = s[i] := by
  unfold rd_T44; simp [List.getD, h]
theorem rd_at23 (s : List Tm) (i : Nat) (h : i < s.length) : rd_T23 s (i : Int) = s[i] := by
  unfold rd_T23; simp [List.getD, h]
theorem wrap_succ (n : Nat) (h : n < smallN) : wrap64 ((n : Int) + 1) = ((n + 1 : Nat) : Int) := by
  simp [smallN] at h; unfold wrap64; omega
theorem terms_self (s : List Tm) (ls : s.length < smallN) : ∀ k, s.length + 1 ≤ k → hearsaylaw02_terms.f k s s = some true := by
  intro k hk
  unfold hearsaylaw02_terms.f
  rw [if_pos rfl]
  suffices h : ∀ (n i k : Nat), s.length = i + n → n + 1 ≤ k → hearsaylaw02_terms.l0 k s s (i : Int) = some true from h s.length 0 k (by omega) hk
  intro n
  induction n with
  | zero =>
    intro i k hi hk
    obtain ⟨k, rfl⟩ : ∃ m, k = m + 1 := ⟨k - 1, by omega⟩
    rw [hearsaylaw02_terms.l0, if_neg (by omega)]
  | succ n ih =>
    intro i k hi hk
    obtain ⟨k, rfl⟩ : ∃ m, k = m + 1 := ⟨k - 1, by omega⟩
    rw [hearsaylaw02_terms.l0, if_pos (by omega), if_pos (by omega), if_pos (by omega), if_neg (by simp), wrap_succ i (by omega)]
    exact ih (i + 1) k (by omega) (by omega)
theorem same_self (t : Tm) (nm : ByteArray) (l : List Tm) (ls : l.length < smallN) : ∀ k, l.length + 1 ≤ k → hearsaylaw02_same.f k t.f0 t.f1 t.f2 nm l t.f0 t.f1 t.f2 nm l = some true := by
  intro k hk
  unfold hearsaylaw02_same.f
  rw [if_pos rfl, if_pos (by simp), terms_self l ls k hk]
  rfl
set_option maxHeartbeats 4000000 in
set_option maxRecDepth 100000 in
theorem lent_calls (t : Tm) (nm : ByteArray) (A0 : Option Addr) (c0 : Nat) (l : List Tm) (w : World) (hr0 : Kd.C k23 w A0 l.length l) (hc0 : l.length ≤ c0) (hLD : Laid1 w) (ls : l.length < smallN) :
    Calls Tryd.prog 13 #[.agg #[.int .i64 t.f0, .int .i64 t.f1, .string t.f2, .string nm, .slice A0 l.length c0]] w fun e w' => ∃ g c, e = .returned (.agg #[.int .i64 t.f0, .int .i64 t.f1, .string t.f2, .string nm, .slice (some ⟨g, 0, none⟩) l.length c]) ∧ Kd.R k23 23 w' w.heap.size (fun _ => True) (.slice (some ⟨g, 0, none⟩) (l.length + 1) c) (l ++ [markT]) ∧ Below w.heap.size w w' := by
  have hu26 := Tryd.underlying26
  have hu23 := Tryd.underlying23
  have HLD := Aside0.mk hLD
  have HR0 := Aside0.mk hr0
  have HC0 := Aside0.mk hc0
  have HS := Aside0.mk ls
  have hw64 : wrap64 (l.length : Int) = (l.length : Int) := by simp [smallN] at ls; unfold wrap64; omega
  clear hLD hr0 hc0 ls
  go_enter Tryd.func13, Tryd.ntmps13
  go_wp2_with (first
    | ((with_reducible refine gate_dst (N := 1) rfl ?_); refine box_event ?hg (N := 1) ?hd (cs := #[.int .i64 t.f0, .int .i64 t.f1, .string t.f2, .string nm, .slice A0 l.length c0]) (t := 26) ?hr ?_; (case hd => rfl); (case hg => rfl); (case hr => first | (go_simp; done) | (go_simp; rfl)); intro ga hga w0 hbox hb; have BA := Aside0.mk hbox; have HB0 := Aside0.mk hb; have GA := Aside0.mk hga; clear hga hbox hb)
    | ((with_reducible refine gate_dst (N := 2) rfl ?_); refine box_event ?hg (N := 2) ?hd (cs := #[.int .i64 0, .int .i64 0, .string ⟨#[]⟩, .string ⟨#[]⟩, .slice none 0 0]) (t := 26) ?hr ?_; (case hd => rfl); (case hg => rfl); (case hr => first | (go_simp; done) | (go_simp; rfl)); intro gr hgr w00 hbox hb; have NE := Aside0.mk (show gr ≠ ga from by rw [hgr]; exact Nat.ne_of_gt (blk_lt BA.out)); have n1_ := Aside0.mk (blk_below BA.out hb); have n2_ := Aside0.mk (below_step HB0.out hb); have n3_ := Aside0.mk hbox; have GR := Aside0.mk (show w.heap.size ≤ gr from by rw [hgr]; exact HB0.out.size); clear hgr hbox hb BA HB0; have BA := n1_; have HB0 := n2_; have BR := n3_; clear n1_ n2_ n3_; have ha4 : w00.cell? ⟨ga, 4, none⟩ = some (.slice A0 l.length c0) := (blk_cell BA.out 4).trans rfl)
    | ((with_reducible refine gate_builtin (b := .append) (xs := #[.tmp 4, .tmp 6]) rfl ?_); at_builtin; refine Kd.R_append_rows k23 (w0 := w) w.heap.size rfl (.tmp 4) (.tmp 6) 24 23 (.agg #[(.int .i64 0), (.int .i64 0), (.string ⟨#[]⟩)]) 32 rfl Tryd.underlying24 info23 rfl (by decide) (by omega) (.slice none 0 0) ([] : List Tm) l _ _ _ (fun k => k ≠ ga ∧ k ≠ gr) (fun _ => False) rfl rfl (Kd.R_nil _ _ _ _ _) (Kd.C_below HR0.out HB0.out) (fun _ _ h => h) (fun _ h => h.elim) (fun k hk => by have h1 := blk_lt BA.out; have h2 := blk_lt BR.out; exact ⟨by omega, by omega⟩) HB0.out HB0.out.size (by have := HS.out; simp [smallN] at this; simp; omega) ?_; intro v1 w1 ho hb hg hat; have HO1 := Aside0.mk ho; have HB1 := Aside0.mk hb; have n1_ := Aside0.mk (blk_grown BA.out hg (by simp [Value.ownBlock])); have n2_ := Aside0.mk (blk_grown BR.out hg (by simp [Value.ownBlock])); clear ho hb hg hat ha4 BA BR; have BA := n1_; have BR := n2_; clear n1_ n2_; have hg0 : w1.cell? ⟨1, 0, none⟩ = some (.int .i64 3) := (Laid1.up HLD.out HB1.out).1; have hg1 : w1.cell? ⟨1, 1, none⟩ = some (.int .i64 901) := (Laid1.up HLD.out HB1.out).2.1; have hg2 : w1.cell? ⟨1, 2, none⟩ = some (.string (⟨#[109, 97, 114, 107]⟩ : ByteArray)) := (Laid1.up HLD.out HB1.out).2.2)
    | ((with_reducible refine gate_builtin (b := .append) (xs := #[.tmp 8, .tmp 10]) rfl ?_); at_builtin; refine Kd.R_append k23 (w0 := w) w.heap.size rfl (.tmp 8) (.tmp 10) 24 23 (.agg #[(.int .i64 0), (.int .i64 0), (.string ⟨#[]⟩)]) 32 rfl Tryd.underlying24 info23 rfl (by decide) (by omega) v1 ([] ++ l) markT [.int .i64 3, .int .i64 901, .string (⟨#[109, 97, 114, 107]⟩ : ByteArray)] (fun k => k ≠ ga ∧ k ≠ gr) (fun _ => False) rfl rfl (k23_mkM _ _ _ markT) (fun _ hk => hk.elim) (fun k hk => by have h1 := blk_lt BA.out; have h2 := blk_lt BR.out; exact ⟨by omega, by omega⟩) HO1.out HB1.out HB1.out.size (by have := HS.out; simp [smallN] at this; simp; omega) ?_; intro v2 w2 ho hb hg hat; have HO2 := Aside0.mk ho; have HB2 := Aside0.mk hb; have n1_ := Aside0.mk (blk_grown BA.out hg (fun e => (HO1.out.1 ga e.symm).1 rfl)); have n2_ := Aside0.mk (blk_grown BR.out hg (fun e => (HO1.out.1 gr e.symm).2 rfl)); clear ho hb hg hat hg0 hg1 hg2 BA BR; have BA := n1_; have BR := n2_; clear n1_ n2_; have ca0 := (blk_cell BA.out 0).trans rfl; have fa0 := blk_frozen BA.out 0; have cr0 := (blk_cell BR.out 0).trans rfl; have fr0 := blk_frozen BR.out 0; have ca1 := (blk_cell BA.out 1).trans rfl; have fa1 := blk_frozen BA.out 1; have cr1 := (blk_cell BR.out 1).trans rfl; have fr1 := blk_frozen BR.out 1; have ca2 := (blk_cell BA.out 2).trans rfl; have fa2 := blk_frozen BA.out 2; have cr2 := (blk_cell BR.out 2).trans rfl; have fr2 := blk_frozen BR.out 2; have ca3 := (blk_cell BA.out 3).trans rfl; have fa3 := blk_frozen BA.out 3; have cr3 := (blk_cell BR.out 3).trans rfl; have fr3 := blk_frozen BR.out 3; have ca4 := (blk_cell BA.out 4).trans rfl; have fa4 := blk_frozen BA.out 4; have cr4 := (blk_cell BR.out 4).trans rfl; have fr4 := blk_frozen BR.out 4; have hne1 := NE.out; have hne2 := Ne.symm NE.out;  obtain ⟨g2, c2, e2, hc2, _⟩ := R_head HO2.out (by simp); have hcc : (l.length : Int) ≤ (c2 : Int) := (by simp at hc2; omega); clear hc2; subst e2)
    | go_in)
  refine bodyPost_ret (results_cell_row rfl _ _ gr 26 #[.int .i64 t.f0, .int .i64 t.f1, .string t.f2, .string nm, .slice (some ⟨g2, 0, none⟩) l.length c2] (0, 0) _ rfl (by refine blk_put (cs := #[.int .i64 t.f0, .int .i64 t.f1, .string t.f2, .string nm, .slice none 0 0]) ?_ 4 _ rfl; refine blk_put (cs := #[.int .i64 t.f0, .int .i64 t.f1, .string t.f2, .string ⟨#[]⟩, .slice none 0 0]) ?_ 3 _ rfl; refine blk_put (cs := #[.int .i64 t.f0, .int .i64 t.f1, .string ⟨#[]⟩, .string ⟨#[]⟩, .slice none 0 0]) ?_ 2 _ rfl; refine blk_put (cs := #[.int .i64 t.f0, .int .i64 0, .string ⟨#[]⟩, .string ⟨#[]⟩, .slice none 0 0]) ?_ 1 _ rfl; refine blk_put (cs := #[.int .i64 0, .int .i64 0, .string ⟨#[]⟩, .string ⟨#[]⟩, .slice none 0 0]) ?_ 0 _ rfl; refine blk_far ?_ NE.out _; exact BR.out) Tryd.underlying26 rfl (by kernel_rfl)) rfl ?_
  refine ⟨g2, c2, rfl, ?_, ?_⟩
  · have h := HO2.out
    simp only [List.nil_append, List.length_append, List.length_singleton] at h
    refine Kd.R_mono (ok := fun k => k ≠ ga ∧ k ≠ gr) ?_ (fun _ _ => trivial)
    exact Kd.R_far (Kd.R_far (Kd.R_far (Kd.R_far (Kd.R_far (Kd.R_far h (p := ⟨ga, 4, none⟩) (fun k hk => hk.1) _) (p := ⟨gr, 0, none⟩) (fun k hk => hk.2) _) (p := ⟨gr, 1, none⟩) (fun k hk => hk.2) _) (p := ⟨gr, 2, none⟩) (fun k hk => hk.2) _) (p := ⟨gr, 3, none⟩) (fun k hk => hk.2) _) (p := ⟨gr, 4, none⟩) (fun k hk => hk.2) _
  · have hga : w.heap.size ≤ ga := by rw [GA.out]; exact Nat.le_refl _
    exact below_set (below_set (below_set (below_set (below_set (below_set HB2.out hga) GR.out) GR.out) GR.out) GR.out) GR.out
set_option maxHeartbeats 4000000 in
set_option maxRecDepth 100000 in
theorem kept_calls (t : Tm) (nm : ByteArray) (g c : Nat) (A2 : Option Addr) (c2 : Nat) (l : List Tm) (w : World) (base : Nat) (hR : Kd.R k23 23 w base (fun _ => True) (.slice (some ⟨g, 0, none⟩) (l.length + 1) c) (l ++ [markT])) (hr2 : Kd.C k23 w A2 l.length l) (hc2 : l.length ≤ c2) (hLD : Laid1 w) (ls : l.length < smallN) :
    Calls Tryd.prog 18 #[.agg #[.int .i64 t.f0, .int .i64 t.f1, .string t.f2, .string nm, .slice (some ⟨g, 0, none⟩) l.length c], .agg #[.int .i64 t.f0, .int .i64 t.f1, .string t.f2, .string nm, .slice A2 l.length c2]] w fun e w' => e = .returned (.bool true) ∧ Below w.heap.size w w' := by
  have hu26 := Tryd.underlying26
  have hu23 := Tryd.underlying23
  obtain ⟨g', c', e1, hcc, _⟩ := R_head hR (by simp)
  injection e1 with e2 _ e3
  injection e2 with e2
  injection e2 with e2
  subst e2 e3
  have hC := R_C' hR
  have hC0 : Kd.C k23 w (some ⟨g, 0, none⟩) l.length l := C_front hC
  have hcc1 : l.length ≤ c := by simp at hcc; omega
  have hcc2 : (l.length : Int) + 1 ≤ (c : Int) := by simp at hcc; omega
  have hb := fun W h1 h2 => hearsaylaw02_same.calls (l.length + 1) t.f0 t.f1 t.f2 nm (some ⟨g, 0, none⟩) c l t.f0 t.f1 t.f2 nm A2 c2 l true W h1 hcc1 h2 hc2 (same_self t nm l ls (l.length + 1) (Nat.le_refl _))
  have hbc := hb _ (Kd.C_below hC0 (below_alloc (below_alloc (Below.refl _ w) (.cells #[.int .i64 t.f0, .int .i64 t.f1, .string t.f2, .string nm, .slice (some ⟨g, 0, none⟩) l.length c] 26 (0, 0))) (.cells #[.int .i64 t.f0, .int .i64 t.f1, .string t.f2, .string nm, .slice A2 l.length c2] 26 (0, 0)))) (Kd.C_below hr2 (below_alloc (below_alloc (Below.refl _ w) _) _))
  obtain ⟨ad, ead, hx0, hx1, hx2⟩ := at_T23 hC (l.length : Int) (by omega) (by simp; omega)
  injection ead with ead
  subst ead
  have hrd : rd_T23 (l ++ [markT]) (l.length : Int) = markT := by rw [rd_at23 _ _ (by simp)]; simp
  rw [hrd, Int.toNat_natCast] at hx0 hx1 hx2
  rw [add0] at hx0 hx1 hx2
  dsimp only [markT] at hx0 hx1 hx2
  obtain ⟨N, hN⟩ : ∃ N : Nat, N = l.length + 1 := ⟨_, rfl⟩
  have hw64 : wrap64 ((l.length : Int) + 1) = (N : Int) := by rw [wrap_succ _ ls, hN]
  have hw65 : IntKind.i64.wrap ((l.length : Int) + 1) = (N : Int) := (i64_w _).trans hw64
  have p1 : (0 : Int) ≤ (N : Int) := by omega
  have p2 : (N : Int) ≤ (c : Int) := by omega
  have p3 : (l.length : Int) < (N : Int) := by omega
  have p4 : l.length < N := by omega
  have HN := Aside0.mk hN
  have HLD := Aside0.mk hLD
  have HX0 := Aside0.mk hx0
  have HX1 := Aside0.mk hx1
  have HX2 := Aside0.mk hx2
  clear hN hcc2 hR hr2 hc2 hC hC0 hcc hb hLD hrd hcc1 hx0 hx1 hx2
  have p0 : (0 : Int) ≤ (l.length : Int) := by omega
  go_enter Tryd.func18, Tryd.ntmps18
  go_wp2_with (go_at_call 22; refine hbc.mono ?_; rintro e w1 ⟨rfl, hb1⟩; have HB1 := Aside0.mk (below_step (below_alloc (below_alloc (Below.refl _ w) _) _) hb1); have BA := Aside0.mk (blk_below (blk_alloc (blk_new w _) _) hb1); clear hb1; have ca4 : w1.cell? ⟨w.heap.size, 4, none⟩ = some (.slice (some ⟨g, 0, none⟩) l.length c) := (blk_cell BA.out 4).trans rfl; have hx0 := (HB1.out.cell (World.block_lt_of_cell? w _ HX0.out)).trans HX0.out; have hx1 := (HB1.out.cell (World.block_lt_of_cell? w _ HX1.out)).trans HX1.out; have hx2 := (HB1.out.cell (World.block_lt_of_cell? w _ HX2.out)).trans HX2.out)
  have hg0 : w1.cell? ⟨1, 0, none⟩ = some (.int .i64 3) := (Laid1.up HLD.out HB1.out).1
  have hg1 : w1.cell? ⟨1, 1, none⟩ = some (.int .i64 901) := (Laid1.up HLD.out HB1.out).2.1
  have hg2 : w1.cell? ⟨1, 2, none⟩ = some (.string (⟨#[109, 97, 114, 107]⟩ : ByteArray)) := (Laid1.up HLD.out HB1.out).2.2
  go_region_held3 (fun w' => w'.cell? ⟨g, l.length * 3, none⟩ = some (.int .i64 3) ∧ w'.cell? ⟨g, l.length * 3 + 1, none⟩ = some (.int .i64 901) ∧ w'.cell? ⟨g, l.length * 3 + 2, none⟩ = some (.string (⟨#[109, 97, 114, 107]⟩ : ByteArray)) ∧ w'.cell? ⟨1, 0, none⟩ = some (.int .i64 3) ∧ w'.cell? ⟨1, 1, none⟩ = some (.int .i64 901) ∧ w'.cell? ⟨1, 2, none⟩ = some (.string (⟨#[109, 97, 114, 107]⟩ : ByteArray))) (go_keep) (fail)
  go_wp2
  go_ret
  exact ⟨by first | rfl | simp, by repeat (first | exact HB1.out | apply pw_below_drewN | apply below_drew1)⟩
theorem R_room {α : Type} {d : Kd α} {e : Nat} {w : World} {base : Nat} {ok : Nat → Prop} {g n c : Nat} {l : List α} (h : d.R e w base ok (.slice (some ⟨g, 0, none⟩) n c) l) (hl : 0 < l.length) : l.length ≤ c := by
  obtain ⟨g', c', e1, hc, _⟩ := R_head h hl
  injection e1 with _ _ e3
  rw [e3]; exact hc
theorem R_cap {α : Type} {d : Kd α} {e : Nat} {w : World} {base : Nat} {ok : Nat → Prop} {A : Option Addr} {n c : Nat} {l : List α} (h : d.R e w base ok (.slice A n c) l) : l.length ≤ c := by
  obtain ⟨A', c', he, hl, _⟩ := Kd.R_reads h
  injection he with _ _ e3
  rw [e3]; exact hl
end Go.Proofs.YtnomgmlfagiffaaDoor.T
/- Look and Become in closed form: the program's and the document's are the same. -/
set_option linter.unusedVariables false
set_option linter.unusedSimpArgs false
namespace Go.Proofs.YtnomgmlfagiffaaDoor.T
open Go.RowKit Go.Lib Go.Proofs.YtnomgmlfagiffaaDoorW.PrintWords
theorem getM_cons (b : Bd) (s : List Bd) (v : Int) : getM (b :: s) v = if b.f0 = v then some b.f1 else getM s v := by
  unfold getM
  rw [List.find?_cons]
  by_cases h : b.f0 = v
  · simp [h]
  · rw [show (b.f0 == v) = false by simpa using h, if_neg h]
theorem rvar_f (t : Tm) : hearsayref02_Variable.f t.f0 t.f1 t.f2 = some (isVar t) := by
  unfold hearsayref02_Variable.f isVar
  by_cases h : t.f0 = 3
  · by_cases h2 : 0 ≤ t.f1 <;> simp [h, h2]
  · simp [h]
end Go.Proofs.YtnomgmlfagiffaaDoor.T
/- Tests and comparisons in closed form: the document's. -/
set_option linter.unusedVariables false
set_option linter.unusedSimpArgs false
namespace Go.Proofs.YtnomgmlfagiffaaDoor.T
open Go.RowKit Go.Lib Go.Proofs.YtnomgmlfagiffaaDoorW.PrintWords Go.Proofs.YtnomgmlfagiffaaDoor.Hs
theorem rconst_f (t : Tm) : hearsayref02_Const.f t.f0 t.f1 t.f2 = some (isConst t) := by
  unfold hearsayref02_Const.f isConst
  by_cases h : t.f0 = 1
  · by_cases h1 : t.f2.toList = [] <;> simp [h, h1]
  · by_cases h2 : t.f0 = 2
    · by_cases h3 : t.f1 = 0 <;> simp [h2, h3]
    · simp [h, h2]
end Go.Proofs.YtnomgmlfagiffaaDoor.T
/- Matching, plainly: the map of the steps is the map of the binding grown step by step. -/
set_option linter.unusedVariables false
set_option linter.unusedSimpArgs false
namespace Go.Proofs.YtnomgmlfagiffaaDoor.T
open Go.RowKit Go.Lib Go.Proofs.YtnomgmlfagiffaaDoorW.PrintWords Go.Proofs.YtnomgmlfagiffaaDoor.Hs
theorem getM_nil (v : Int) : getM [] v = none := rfl
theorem getM_put {v : Int} {t : Tm} (w : Int) : ∀ {m : List Bd}, Rising m → getM (putM v t m) w = if v = w then some t else getM m w
  | [], _ => by rw [putM, getM_cons]
  | c :: r, h => by
    obtain ⟨h1, h2⟩ := List.pairwise_cons.1 h
    unfold putM
    split
    · rw [getM_cons]
    · split
      · rename_i hv
        rw [getM_cons, getM_cons]
        by_cases e : v = w
        · rw [if_pos e, if_pos e]
        · rw [if_neg e, if_neg e, if_neg (by omega)]
      · rename_i hv hc
        rw [getM_cons, getM_put w h2, getM_cons]
        by_cases e : v = w
        · rw [if_neg (by omega), if_pos e, if_pos e]
        · rw [if_neg e, if_neg e]
theorem getM_fold (v : Int) : ∀ (s m : List Bd), Rising m → getM (s.foldl (fun m b => if (getM m b.f0).isSome then m else putM b.f0 b.f1 m) m) v = (getM m v).or (getM s v)
  | [], m, _ => by simp [getM_nil]
  | b :: s, m, h => by
    rw [List.foldl_cons, getM_cons]
    by_cases e : (getM m b.f0).isSome = true
    · rw [if_pos e, getM_fold v s m h]
      by_cases ev : b.f0 = v
      · subst ev
        obtain ⟨t, ht⟩ := Option.isSome_iff_exists.1 e
        rw [ht]; simp
      · rw [if_neg ev]
    · rw [if_neg e, getM_fold v s _ (putM_rising h), getM_put v h]
      have e0 : getM m b.f0 = none := by simpa using e
      by_cases ev : b.f0 = v
      · subst ev; rw [if_pos rfl, if_pos rfl, e0]; simp
      · rw [if_neg ev, if_neg ev]
theorem getM_start (s : List Bd) (v : Int) : getM (startM s) v = getM s v := by
  unfold startM
  rw [getM_fold v s [] List.Pairwise.nil, getM_nil]
  rfl
end Go.Proofs.YtnomgmlfagiffaaDoor.T
/- slices.IndexFunc, ContainsFunc and CompareFunc at Term, with function values that may lay memory. -/
set_option linter.unusedVariables false
set_option linter.unusedSimpArgs false
namespace Go.Proofs.YtnomgmlfagiffaaDoor.T
open Go.RowKit Go.Proofs.YtnomgmlfagiffaaDoorW.PrintWords Go.Proofs.YtnomgmlfagiffaaDoorW.PrintLast
/-- What is asked of a function value over a term: it answers p, whatever lies new. -/
def PredB (g : Nat) (p : Tm → Bool) (w : World) : Prop := ∀ (x : Tm) (W : World), okT x = true → Below w.heap.size w W → Calls Tryd.prog g #[.agg #[.int .i64 x.f0, .int .i64 x.f1, .string x.f2]] W fun e W' => e = .returned (.bool (p x)) ∧ Below W.heap.size W W'
theorem any_false {l : List Tm} {p : Tm → Bool} (h : ∀ j : Nat, (hj : j < l.length) → p l[j] = false) : l.any p = false := by
  rw [List.any_eq_false]
  intro x hx
  obtain ⟨j, hj, rfl⟩ := List.getElem_of_mem hx
  simp [h j hj]
set_option maxHeartbeats 4000000 in
set_option maxRecDepth 100000 in
theorem idxF_calls (p : Tm → Bool) (g : Nat) (eg : ∀ args w, (callFunc g args).run Tryd.prog w = .ok (.enter g args) w) (A0 : Option Addr) (c0 : Nat) (l : List Tm) (w : World)
    (hr0 : Kd.C k23 w A0 l.length l) (hc0 : l.length ≤ c0) (ol : l.all okT = true) (hs : l.length ≤ 9223372036854775807) (hp : PredB g p w) :
    Calls Tryd.prog 85 #[.slice A0 l.length c0, .func (.func g) #[] #[]] w fun e w' => ∃ r : Int, e = .returned (.int .i64 r) ∧ decide (0 ≤ r) = l.any p ∧ Below w.heap.size w w' := by
  have hu23 := Tryd.underlying23
  have HR0 := Aside0.mk hr0
  have HC0 := Aside0.mk hc0
  have OL := Aside0.mk ol
  have HS := Aside0.mk hs
  have HP := Aside0.mk hp
  clear hr0 hc0 ol hs hp
  have HB := Aside0.mk (Below.refl w.heap.size w)
  go_enter Tryd.func85, Tryd.ntmps85
  go_wp2
  go_loopg [5, 8] l.length (fun gg _ s8 wr => ∃ i : Int, Aside0 (0 ≤ i ∧ i ≤ (l.length : Int) ∧ (l.length : Int) - i ≤ (gg : Int)) ∧ s8 = .int .i64 i ∧ Aside0 (∀ j : Nat, (hj : j < l.length) → (j : Int) < i → p l[j] = false) ∧ Aside0 (Below w.heap.size w wr))
  case atStart => exact ⟨0, ⟨by omega, by omega, by omega⟩, rfl, ⟨fun j _ hj => absurd hj (by omega)⟩, HB⟩
  case round =>
    obtain ⟨i, HK, rfl, HA, HB1⟩ := hrel
    by_cases hlt : i < (l.length : Int)
    · have hltb : decide (i < (l.length : Int)) = true := decide_eq_true hlt
      have hpos : 0 ≤ i := HK.out.1
      have HLT := Aside0.mk (show i.toNat < l.length by omega)
      have HPOS := Aside0.mk hpos
      obtain ⟨ad, e0, h0, h1, h2⟩ := at_T23 HR0.out i hpos hlt
      cases e0
      replace h0 := (HB1.out.cell (World.block_lt_of_cell? w _ h0)).trans h0
      replace h1 := (HB1.out.cell (World.block_lt_of_cell? w _ h1)).trans h1
      replace h2 := (HB1.out.cell (World.block_lt_of_cell? w _ h2)).trans h2
      have HY := Aside0.mk (show l[i.toNat]'HLT.out = rd_T23 l i from by simp [rd_T23, List.getD_eq_getElem?_getD, List.getElem?_eq_getElem HLT.out])
      have hok : okT (rd_T23 l i) = true := by rw [← HY.out]; exact List.all_eq_true.1 OL.out _ (List.getElem_mem HLT.out)
      have hcall := HP.out (rd_T23 l i) wr hok HB1.out
      have hwr : wrap64 (i + 1) = i + 1 := by have := HS.out; simp only [wrap64]; omega
      have hlt' := eq_true hlt
      have hpos' := eq_true hpos
      clear hok hlt hpos
      cases hq : p (rd_T23 l i) with
      | true =>
        rw [hq] at hcall
        have HQ := Aside0.mk hq
        clear hq
        go_wp2_with (go_at_fn g; refine hcall.mono ?_; rintro e w' ⟨rfl, hb⟩; have HB2 := Aside0.mk (below_step HB1.out hb); clear hb)
        go_ret
        refine ⟨i, rfl, ?_, HB2.out⟩
        rw [show l.any p = true from List.any_eq_true.2 ⟨rd_T23 l i, by rw [← HY.out]; exact List.getElem_mem HLT.out, HQ.out⟩]
        simpa using HPOS.out
      | false =>
        rw [hq] at hcall
        have HQ := Aside0.mk hq
        clear hq
        go_wp2_with (go_at_fn g; refine hcall.mono ?_; rintro e w' ⟨rfl, hb⟩; have HB2 := Aside0.mk (below_step HB1.out hb); clear hb)
        go_roundg (l.length - (i.toNat + 1))
        case measure => have := HK.out; have := HLT.out; omega
        case rel =>
          refine ⟨i + 1, ⟨by have := HPOS.out; omega, by have := HLT.out; omega, by have := HLT.out; have := HPOS.out; omega⟩, by first | rfl | (simp [hwr]; done) | go_num, ⟨fun j hj hjk => ?_⟩, HB2⟩
          by_cases e : (j : Int) = i
          · subst e; have := HY.out; simp at this; rw [this]; exact HQ.out
          · exact HA.out j hj (by omega)
    · have hltb : decide (i < (l.length : Int)) = false := decide_eq_false hlt
      have HN := Aside0.mk hlt
      clear hlt
      go_wp2
      go_ret
      refine ⟨-1, rfl, ?_, HB1.out⟩
      rw [any_false (fun j hj => HA.out j hj (by have := HN.out; omega))]
      rfl
set_option maxHeartbeats 4000000 in
set_option maxRecDepth 100000 in
theorem hasF_calls (p : Tm → Bool) (g : Nat) (eg : ∀ args w, (callFunc g args).run Tryd.prog w = .ok (.enter g args) w) (A0 : Option Addr) (c0 : Nat) (l : List Tm) (w : World)
    (hr0 : Kd.C k23 w A0 l.length l) (hc0 : l.length ≤ c0) (ol : l.all okT = true) (hs : l.length ≤ 9223372036854775807) (hp : PredB g p w) :
    Calls Tryd.prog 70 #[.slice A0 l.length c0, .func (.func g) #[] #[]] w fun e w' => e = .returned (.bool (l.any p)) ∧ Below w.heap.size w w' := by
  have hcall := idxF_calls p g eg A0 c0 l w hr0 hc0 ol hs hp
  clear hr0 hc0 ol hs hp
  go_enter Tryd.func70, Tryd.ntmps70
  go_wp2_with (go_at_call 85; refine hcall.mono ?_; rintro e w' ⟨r, rfl, hd, hb⟩; have HD := Aside0.mk hd; have HB := Aside0.mk hb; clear hd hb)
  go_ret
  exact ⟨by first | rw [← HD.out]; rfl | simp [← HD.out], HB.out⟩
def CmpB (g : Nat) (cf : Tm → Tm → Int) (w : World) : Prop := ∀ (x y : Tm) (W : World), okT x = true → okT y = true → Below w.heap.size w W → Calls Tryd.prog g #[.agg #[.int .i64 x.f0, .int .i64 x.f1, .string x.f2], .agg #[.int .i64 y.f0, .int .i64 y.f1, .string y.f2]] W fun e W' => e = .returned (.int .i64 (cf x y)) ∧ Below W.heap.size W W'
/-- What slices.CompareFunc answers. -/
def cmpL (cf : Tm → Tm → Int) : List Tm → List Tm → Int
  | [], [] => 0
  | [], _ :: _ => -1
  | _ :: _, [] => 1
  | x :: l, y :: m => if cf x y = 0 then cmpL cf l m else cf x y
theorem cmpL_step {cf : Tm → Tm → Int} {l m : List Tm} {i : Nat} (hl : i < l.length) (hm : i < m.length) : cmpL cf (l.drop i) (m.drop i) = if cf l[i] m[i] = 0 then cmpL cf (l.drop (i + 1)) (m.drop (i + 1)) else cf l[i] m[i] := by
  rw [List.drop_eq_getElem_cons hl, List.drop_eq_getElem_cons hm]
  rfl
set_option maxHeartbeats 8000000 in
set_option maxRecDepth 100000 in
theorem cmpF_calls (cf : Tm → Tm → Int) (g : Nat) (eg : ∀ args w, (callFunc g args).run Tryd.prog w = .ok (.enter g args) w) (A0 : Option Addr) (c0 : Nat) (l : List Tm) (A1 : Option Addr) (c1 : Nat) (m : List Tm) (w : World)
    (hr0 : Kd.C k23 w A0 l.length l) (hc0 : l.length ≤ c0) (hr1 : Kd.C k23 w A1 m.length m) (hc1 : m.length ≤ c1) (ol : l.all okT = true) (om : m.all okT = true) (hs : l.length ≤ 9223372036854775807) (hp : CmpB g cf w) :
    Calls Tryd.prog 77 #[.slice A0 l.length c0, .slice A1 m.length c1, .func (.func g) #[] #[]] w fun e w' => e = .returned (.int .i64 (cmpL cf l m)) ∧ Below w.heap.size w w' := by
  have hu23 := Tryd.underlying23
  have HR0 := Aside0.mk hr0
  have HC0 := Aside0.mk hc0
  have HR1 := Aside0.mk hr1
  have HC1 := Aside0.mk hc1
  have OL := Aside0.mk ol
  have OM := Aside0.mk om
  have HS := Aside0.mk hs
  have HP := Aside0.mk hp
  clear hr0 hc0 hr1 hc1 ol om hs hp
  have HB := Aside0.mk (Below.refl w.heap.size w)
  go_enter Tryd.func77, Tryd.ntmps77
  go_wp2
  go_loopg [13] l.length (fun gg s13 wr => ∃ i : Int, Aside0 (0 ≤ i ∧ i ≤ (l.length : Int) ∧ i ≤ (m.length : Int) ∧ (l.length : Int) - i ≤ (gg : Int)) ∧ s13 = .int .i64 i ∧ Aside0 (cmpL cf (l.drop i.toNat) (m.drop i.toNat) = cmpL cf l m) ∧ Aside0 (Below w.heap.size w wr))
  case atStart => exact ⟨0, ⟨by omega, by omega, by omega, by omega⟩, rfl, ⟨rfl⟩, HB⟩
  case round =>
    obtain ⟨i, HK, rfl, HA, HB1⟩ := hrel
    by_cases hlt : i < (l.length : Int)
    · have hltb : decide (i < (l.length : Int)) = true := decide_eq_true hlt
      have hpos : 0 ≤ i := HK.out.1
      have HLT := Aside0.mk (show i.toNat < l.length by omega)
      have HPOS := Aside0.mk hpos
      obtain ⟨ad, e0, h0, h1, h2⟩ := at_T23 HR0.out i hpos hlt
      cases e0
      replace h0 := (HB1.out.cell (World.block_lt_of_cell? w _ h0)).trans h0
      replace h1 := (HB1.out.cell (World.block_lt_of_cell? w _ h1)).trans h1
      replace h2 := (HB1.out.cell (World.block_lt_of_cell? w _ h2)).trans h2
      have HY := Aside0.mk (show l[i.toNat]'HLT.out = rd_T23 l i from by simp [rd_T23, List.getD_eq_getElem?_getD, List.getElem?_eq_getElem HLT.out])
      have hok : okT (rd_T23 l i) = true := by rw [← HY.out]; exact List.all_eq_true.1 OL.out _ (List.getElem_mem HLT.out)
      have HOK := Aside0.mk hok
      have hwr : wrap64 (i + 1) = i + 1 := by have := HS.out; simp only [wrap64]; omega
      have hlt' := eq_true hlt
      have hpos' := eq_true hpos
      clear hok hlt
      by_cases hm : (m.length : Int) ≤ i
      · have hmb : decide ((m.length : Int) ≤ i) = true := decide_eq_true hm
        have HM := Aside0.mk hm
        clear hpos
        go_wp2
        go_ret
        refine ⟨?_, by first | exact HB1.out | exact below_alloc HB1.out _⟩
        rw [← HA.out, List.drop_eq_getElem_cons HLT.out, show m.drop i.toNat = [] from List.drop_of_length_le (by have := HM.out; have := HPOS.out; omega)]
        rfl
      · have hmb : decide ((m.length : Int) ≤ i) = false := decide_eq_false hm
        have hmlt : i < (m.length : Int) := by omega
        have HMT := Aside0.mk (show i.toNat < m.length by omega)
        obtain ⟨ad1, e1, g0, g1, g2⟩ := at_T23 HR1.out i hpos hmlt
        cases e1
        replace g0 := fun o => ((below_alloc HB1.out o).cell (World.block_lt_of_cell? w _ g0)).trans g0
        replace g1 := fun o => ((below_alloc HB1.out o).cell (World.block_lt_of_cell? w _ g1)).trans g1
        replace g2 := fun o => ((below_alloc HB1.out o).cell (World.block_lt_of_cell? w _ g2)).trans g2
        have HZ := Aside0.mk (show m[i.toNat]'HMT.out = rd_T23 m i from by simp [rd_T23, List.getD_eq_getElem?_getD, List.getElem?_eq_getElem HMT.out])
        have hok1 : okT (rd_T23 m i) = true := by rw [← HZ.out]; exact List.all_eq_true.1 OM.out _ (List.getElem_mem HMT.out)
        have HCALL := Aside0.mk (fun W (hb : Below w.heap.size w W) => HP.out (rd_T23 l i) (rd_T23 m i) W HOK.out hok1 hb)
        have hst := cmpL_step (cf := cf) HLT.out HMT.out
        rw [HA.out, HY.out, HZ.out] at hst
        have HST := Aside0.mk hst
        have hmlt' := eq_true hmlt
        clear hok1 hst hm hmlt hpos
        by_cases hq : cf (rd_T23 l i) (rd_T23 m i) = 0
        · have hqb : (cf (rd_T23 l i) (rd_T23 m i) != 0) = false := by simp [hq]
          have HQ := Aside0.mk hq
          clear hq
          go_wp2_with (first | (go_at_fn g; refine (HCALL.out _ (below_alloc (below_alloc HB1.out _) _)).mono ?_; rintro e w' ⟨rfl, hb⟩; have HB2 := Aside0.mk (below_step (below_alloc (below_alloc HB1.out _) _) hb); clear hb) | go_in)
          go_roundg (l.length - (i.toNat + 1))
          case measure => have := HK.out; have := HLT.out; omega
          case rel =>
            refine ⟨i + 1, ⟨by have := HPOS.out; omega, by have := HLT.out; omega, by have := HMT.out; omega, by have := HLT.out; have := HPOS.out; omega⟩, by first | rfl | (simp [hwr]; done) | go_num, ⟨?_⟩, HB2⟩
            rw [show (i + 1).toNat = i.toNat + 1 by have := HPOS.out; omega, HST.out, if_pos HQ.out]
        · have hqb : (cf (rd_T23 l i) (rd_T23 m i) != 0) = true := by simp [hq]
          have HQ := Aside0.mk hq
          clear hq
          go_wp2_with (first | (go_at_fn g; refine (HCALL.out _ (below_alloc (below_alloc HB1.out _) _)).mono ?_; rintro e w' ⟨rfl, hb⟩; have HB2 := Aside0.mk (below_step (below_alloc (below_alloc HB1.out _) _) hb); clear hb) | go_in)
          go_ret
          refine ⟨?_, HB2.out⟩
          rw [HST.out, if_neg HQ.out]
          rfl
    · have hltb : decide (i < (l.length : Int)) = false := decide_eq_false hlt
      have HN := Aside0.mk (show i.toNat = l.length by have := HK.out; omega)
      have HI := Aside0.mk (show i = (l.length : Int) by have := HK.out; omega)
      clear hlt
      by_cases hm : (l.length : Int) < (m.length : Int)
      · have hmb : decide ((l.length : Int) < (m.length : Int)) = true := decide_eq_true hm
        have HM := Aside0.mk hm
        go_wp2
        go_ret
        refine ⟨?_, HB1.out⟩
        rw [← HA.out, HN.out, List.drop_length, List.drop_eq_getElem_cons (show l.length < m.length by have := HM.out; omega)]
        rfl
      · have hmb : decide ((l.length : Int) < (m.length : Int)) = false := decide_eq_false hm
        have HM := Aside0.mk hm
        go_wp2
        go_ret
        refine ⟨?_, HB1.out⟩
        rw [← HA.out, HN.out, List.drop_length, show m.drop l.length = [] from List.drop_of_length_le (by have := HM.out; omega)]
        rfl
end Go.Proofs.YtnomgmlfagiffaaDoor.T
/- The laws' tests of sameness, plainly. -/
set_option linter.unusedVariables false
set_option linter.unusedSimpArgs false
namespace Go.Proofs.YtnomgmlfagiffaaDoor.T
open Go.RowKit Go.Lib Go.Proofs.YtnomgmlfagiffaaDoorW.PrintWords Go.Proofs.YtnomgmlfagiffaaDoor.Hs
open Classical in
theorem eqT_fields (a b : Tm) : (a.f0 == b.f0 && (a.f1 == b.f1 && (a.f2.toList == b.f2.toList))) = decide (a = b) := by
  have h := eqT_iff a b
  unfold eqT at h
  rw [Bool.eq_iff_iff, decide_eq_true_iff]
  exact h
end Go.Proofs.YtnomgmlfagiffaaDoor.T
/- Maps from Term to Term: what a key reads as; the classes of Unify as a function. -/
set_option linter.unusedVariables false
set_option linter.unusedSimpArgs false
namespace Go.Proofs.YtnomgmlfagiffaaDoor.T
open Go.RowKit Go.Maps Go.Proofs.YtnomgmlfagiffaaDoorW.PrintWords Go.Proofs.YtnomgmlfagiffaaDoorW.PrintLast
def litsT (t : Tm) : List Lit := [.int .i64 t.f0, .int .i64 t.f1, .string t.f2.data.toList]
def keyT (t : Tm) : Lit := .string (keyBytes (litsT t))
theorem keyT_lit (t : Tm) : WideAt.IsKeyLit (keyT t) := trivial
theorem keyT_inj {t u : Tm} (ot : okT t = true) (ou : okT u = true) (h : keyT t = keyT u) : t = u := by
  simp only [okT, Bool.and_eq_true, decide_eq_true_eq] at ot ou
  have hw : ∀ x : Tm, inI x.f0 = true ∧ inI x.f1 = true ∧ x.f2.size ≤ 9223372036854775807 → ∀ a ∈ litsT x, a.keyWf := by
    intro x hx a ha
    simp only [litsT, List.mem_cons, List.not_mem_nil, or_false] at ha
    rcases ha with rfl | rfl | rfl
    · exact inI_wf hx.1
    · exact inI_wf hx.2.1
    · show x.f2.data.toList.length ≤ maxLen
      have : x.f2.data.toList.length = x.f2.size := rfl
      rw [this]
      simpa [maxLen] using hx.2.2
  have e := keyBytes_inj (l := litsT t) (l' := litsT u) ⟨rfl, rfl, trivial, trivial⟩ (hw t ot) (hw u ou) (by injection h)
  simp only [litsT, List.cons.injEq, Lit.int.injEq, Lit.string.injEq, true_and, and_true] at e
  obtain ⟨e0, e1, e2⟩ := e
  cases t; cases u
  simp only at e0 e1 e2
  subst e0 e1
  congr 1
  exact WideShapes.bytes_inj e2
theorem lawT : Keyed Tryd.prog 23 := Keyed.of_law (deep_law_gate (by kernel_rfl) (of_decide_eq_true (by kernel_rfl)) (of_decide_eq_true (by kernel_rfl)) (by kernel_rfl) (by kernel_rfl))
theorem keyLitsT (d : Nat) (t : Tm) (ot : okT t = true) : Tryd.prog.keyLits (d + 2) 23 [.int .i64 t.f0, .int .i64 t.f1, .string t.f2] = some (litsT t) := by
  simp only [okT, Bool.and_eq_true, decide_eq_true_eq] at ot
  have c0 : Tryd.prog.cellsOf 23 = 3 := by kernel_rfl
  have c1 : Tryd.prog.cellsOf 3 = 1 := by kernel_rfl
  have c2 : Tryd.prog.cellsOf 9 = 1 := by kernel_rfl
  have w0 := inI_wf ot.1
  have w1 := inI_wf ot.2.1
  have w2 : t.f2.size ≤ maxLen := by simpa [maxLen] using ot.2.2
  simp only [Program.keyLits, Tryd.underlying23, Tryd.underlying3, Tryd.underlying9, c0, c1, c2]
  simp [litsT, w0, w1, w2, c1, c2]
theorem keyOfT (t : Tm) (ot : okT t = true) : keyOf Tryd.prog 23 (encT t) = some (keyT t) := by
  have h1 : Tryd.prog.keyType 23 = true := by kernel_rfl
  have h2 : (encT t).formed Tryd.prog 23 = true := by
    simp only [encT, Value.formed, Tryd.underlying23]
    rw [show Tryd.prog.cellsOf 23 = 3 by kernel_rfl]
    rfl
  have h3 : ∃ d, Tryd.prog.types.size + 1 = d + 2 := ⟨Tryd.prog.types.size - 1, by have : 0 < Tryd.prog.types.size := of_decide_eq_true (by kernel_rfl); omega⟩
  obtain ⟨d, hd⟩ := h3
  simp only [keyOf, Tryd.underlying23, h1, h2, Bool.and_self, if_true, hd]
  rw [show (encT t).cells.toList = [.int .i64 t.f0, .int .i64 t.f1, .string t.f2] from rfl, keyLitsT d t ot]
  rfl
/-- The classes: what each term is linked to. -/
abbrev Cl := Tm → Option Tm
noncomputable def Cl.set (C : Cl) (t u : Tm) : Cl := fun x => open Classical in if x = t then some u else C x
structure ClsD (D : DataW Tm) (C : Cl) : Prop where
  map : IsMap D
  has : ∀ t, okT t = true → Maps.has D (keyT t) = (C t).isSome
  key : ∀ t u, okT t = true → C t = some u → ∀ z, D.atKey (keyT t) z = .held u
  free : ∀ t, okT t = true → C t = none → ∀ z, D.atKey (keyT t) z = z
theorem ClsD.nil : ClsD (.map []) (fun _ => none) := ⟨⟨[], rfl⟩, fun _ _ => rfl, fun _ _ _ h => (by cases h), fun _ _ _ _ => rfl⟩
theorem ClsD.put {D : DataW Tm} {C : Cl} (h : ClsD D C) {t u : Tm} (ot : okT t = true) : ClsD (D.put (keyT t) (.held u)) (C.set t u) := by
  classical
  refine ⟨?_, fun x ox => ?_, fun x y ox hx z => ?_, fun x ox hx z => ?_⟩
  · obtain ⟨es, rfl⟩ := h.map
    exact ⟨_, rfl⟩
  · unfold Cl.set
    by_cases e : x = t
    · subst e; rw [if_pos rfl, has_put_same h.map (keyT_lit x)]; rfl
    · rw [if_neg e, has_put_other (fun e' => e (keyT_inj ox ot e')), h.has x ox]
  · unfold Cl.set at hx
    by_cases e : x = t
    · subst e; rw [if_pos rfl] at hx; injection hx with hx; rw [atKey_put_same h.map (keyT_lit x), hx]
    · rw [if_neg e] at hx; rw [atKey_put_other (fun e' => e (keyT_inj ox ot e')), h.key x y ox hx]
  · unfold Cl.set at hx
    by_cases e : x = t
    · subst e; rw [if_pos rfl] at hx; cases hx
    · rw [if_neg e] at hx; rw [atKey_put_other (fun e' => e (keyT_inj ox ot e')), h.free x ox hx]
end Go.Proofs.YtnomgmlfagiffaaDoor.T
/- The walk of (classes).top. -/
set_option linter.unusedVariables false
set_option linter.unusedSimpArgs false
namespace Go.Proofs.YtnomgmlfagiffaaDoor.T
open Go.RowKit Go.Maps Go.Proofs.YtnomgmlfagiffaaDoorW.PrintWords Go.Proofs.YtnomgmlfagiffaaDoorW.PrintLast
attribute [local go_sem high] eqA23
/-- Which term stands for the class; the map behind the question. -/
inductive Top : Cl → Tm → Tm → Cl → Prop
  | new {C : Cl} {t : Tm} (h : C t = none) : Top C t t (C.set t t)
  | self {C : Cl} {t : Tm} (h : C t = some t) : Top C t t C
  | step {C C' : Cl} {t u r : Tm} (h : C t = some u) (hu : u ≠ t) (h2 : Top C u r C') : Top C t r C'
def rankT (t : Tm) : Nat := if isVar t then t.f1.toNat + 1 else 0
structure InvC (C : Cl) : Prop where
  ok : ∀ t u, C t = some u → okT u = true
  down : ∀ t u, C t = some u → u ≠ t → rankT u < rankT t
section
variable {ops : Array Oper} {rest : List Oper} {o : Oper} {a : Act} {Q : Exit → Act → World → Prop}
/-- 'u, ok := c[t]'. -/
theorem lookC_event (w : World) (hg : o.guard = none) (mo x : Operand) (hop : o.op = Op.lookup 76 mo x true) (b n : Nat) (D : DataW Tm) (C : Cl) (t u : Tm) (ob : Bool)
    (hm : a.eval mo = .map (some b)) (hown : w.ownsMap Tryd.prog 23 RT b n D) (hC : ClsD D C) (hx : a.eval x = .agg #[.int .i64 t.f0, .int .i64 t.f1, .string t.f2]) (ot : okT t = true) (ht : (C t).getD ⟨0, 0, ⟨#[]⟩⟩ = u) (hob : (C t).isSome = ob)
    (hK : wpList Tryd.prog ops Q rest (a.put o.dst (.tuple #[.agg #[.int .i64 u.f0, .int .i64 u.f1, .string u.f2], .bool ob])) w) :
    wpList Tryd.prog ops Q (o :: rest) a w := by
  refine wpList_lookup_own_ok w hg mo x 76 hop 23 23 lawT Tryd.underlying76 RT (zeroT w) _ _ (RT_enc _) b n _ hm hown _ _ hx (keyOfT t ot) (fun v' ps hv' => ?_)
  rw [hC.has t ot, hob]
  obtain ⟨t', rfl, e⟩ := RT_inv hv'
  have : t' = u := by
    injection e with e _
    cases hgm : C t with
    | none => rw [hgm] at ht; rw [hC.free t ot hgm] at e; injection e with e; rw [← ht, ← e]; rfl
    | some t2 => rw [hgm] at ht; rw [hC.key t t2 ot hgm] at e; injection e with e; rw [← ht, ← e]; rfl
  rw [this]
  exact hK
/-- 'c[t] = u'. -/
theorem updC_event (w : World) (hg : o.guard = none) (mo x y : Operand) (hop : o.op = Op.mapUpdate 76 mo x y) (b n : Nat) (D : DataW Tm) (C : Cl) (t u : Tm)
    (hm : a.eval mo = .map (some b)) (hown : w.ownsMap Tryd.prog 23 RT b n D) (hC : ClsD D C) (hn : n < maxLen) (hx : a.eval x = .agg #[.int .i64 t.f0, .int .i64 t.f1, .string t.f2]) (hy : a.eval y = .agg #[.int .i64 u.f0, .int .i64 u.f1, .string u.f2]) (ot : okT t = true)
    (hK : ∀ w', w'.ownsMap Tryd.prog 23 RT b (n + 1) (D.put (keyT t) (.held u)) → w.grownBy w' (some b) → wpList Tryd.prog ops Q rest (a.put o.dst undef) w') :
    wpList Tryd.prog ops Q (o :: rest) a w :=
  wpList_mapUpdate_own w hg mo x y 76 hop 23 23 lawT Tryd.underlying76 RT b n _ hm hown hn _ _ _ hx hy (keyOfT t ot) (.held u) [] (RT_enc u) (fun w' h1 h2 => hK w' h1 h2)
end
theorem mapT_below {w w' : World} {b n : Nat} {D : DataW Tm} (h : w.ownsMap Tryd.prog 23 RT b n D) (hb : Below w.heap.size w w') : w'.ownsMap Tryd.prog 23 RT b n D := by
  have hlt := h.lt
  obtain ⟨es, clock, hb2, F, hs, hD⟩ := h
  exact ⟨es, clock, (hb.block b hlt).trans hb2, F, hs, hD⟩
theorem mapT_set {W : World} {b n : Nat} {D : DataW Tm} (h : W.ownsMap Tryd.prog 23 RT b n D) {p : Addr} (hp : b < p.block) (u : Value) : (W.setCell p u).ownsMap Tryd.prog 23 RT b n D := by
  obtain ⟨es, clock, hb2, F, hs, hD⟩ := h
  exact ⟨es, clock, (Below.heap_setCell W p u b (by omega)).trans hb2, F, hs, hD⟩
theorem grown_set {w W : World} {row : Option Nat} (h : w.grownBy W row) {p : Addr} (hp : w.heap.size ≤ p.block) (u : Value) : w.grownBy (W.setCell p u) row :=
  ⟨h.os, h.tape, h.output, by simpa [World.setCell] using h.size, fun i hi hr => (Below.heap_setCell W p u i (by omega)).trans (h.block i hi hr)⟩
set_option maxHeartbeats 8000000 in
set_option maxRecDepth 100000 in
theorem top_calls (b n : Nat) (D : DataW Tm) (C : Cl) (t : Tm) (w : World) (hm : w.ownsMap Tryd.prog 23 RT b n D) (hC : ClsD D C) (hI : InvC C) (ot : okT t = true) (hn : n < maxLen) :
    Calls Tryd.prog 60 #[.map (some b), .agg #[.int .i64 t.f0, .int .i64 t.f1, .string t.f2]] w fun e w' => ∃ r C' D', e = .returned (.agg #[.int .i64 r.f0, .int .i64 r.f1, .string r.f2]) ∧ Top C t r C' ∧ okT r = true ∧ ClsD D' C' ∧ w'.ownsMap Tryd.prog 23 RT b (n + 1) D' ∧ w.grownBy w' (some b) := by
  have hu23 := Tryd.underlying23
  have HM := Aside0.mk hm
  have HC := Aside0.mk hC
  have HI := Aside0.mk hI
  have OT := Aside0.mk ot
  have HN := Aside0.mk hn
  have HLT := Aside0.mk hm.lt
  clear hm hC hI ot hn
  go_enter Tryd.func60, Tryd.ntmps60
  go_wp2_with (first
    | ((with_reducible refine gate_dst (N := 3) rfl ?_); refine box_event ?hg (N := 3) ?hd (cs := #[.int .i64 t.f0, .int .i64 t.f1, .string t.f2]) (t := 23) ?hr ?_; (case hd => rfl); (case hg => rfl); (case hr => first | (go_simp; done) | (go_simp; rfl)); intro b3 hb3 w1 hbox hb; have K3 := Aside0.mk hbox; have HB1 := Aside0.mk hb; have G3 := Aside0.mk (show w.heap.size ≤ b3 by omega); clear hb3 hbox hb)
    | ((with_reducible refine gate_dst (N := 4) rfl ?_); refine box_event ?hg (N := 4) ?hd (cs := #[.int .i64 0, .int .i64 0, .string (⟨#[]⟩ : ByteArray)]) (t := 23) ?hr ?_; (case hd => rfl); (case hg => rfl); (case hr => first | (go_simp; done) | (go_simp; rfl)); intro b4 hb4 w2 hbox hb; have K32 := Aside0.mk (blk_below K3.out hb); have K4 := Aside0.mk hbox; have HB2 := Aside0.mk (below_step HB1.out hb); have G4 := Aside0.mk (show w.heap.size ≤ b4 by have := HB1.out.size; omega); have N34 := Aside0.mk (show b3 ≠ b4 by have := blk_lt K3.out; omega); clear hb4 hbox hb K3 HB1)
    | go_in)
  (try simp only [Act.put, List.setIfInBounds_toArray, List.set_cons_zero, List.set_cons_succ])
  go_loopg [5] (rankT t + 1) (fun gg s5 wr => ∃ x : Tm, Aside0 (okT x = true) ∧ Aside0 (rankT x < gg) ∧ Aside0 (∀ r C', Top C x r C' → Top C t r C') ∧ Aside0 (wr.heap[b3]? = some (.cells #[.int .i64 x.f0, .int .i64 x.f1, .string x.f2] 23 (0, 0))) ∧ Aside0 (wr.heap[b4]? = some (.cells #[.int .i64 0, .int .i64 0, .string (⟨#[]⟩ : ByteArray)] 23 (0, 0))) ∧ Aside0 (Below w.heap.size w wr))
  case atStart => exact ⟨t, OT, ⟨by omega⟩, ⟨fun r C' h => h⟩, K32, K4, HB2⟩
  case round =>
    clear K32 K4 HB2
    obtain ⟨x, OX, HR, HT, K3, K4, HB⟩ := hrel
    have HMR := Aside0.mk (mapT_below HM.out HB.out)
    have x0 := (blk_cell K3.out 0).trans rfl
    have x1 := (blk_cell K3.out 1).trans rfl
    have x2 := (blk_cell K3.out 2).trans rfl
    have xa0 := fun o => (blk_cell (blk_alloc K3.out o) 0).trans rfl
    have xa1 := fun o => (blk_cell (blk_alloc K3.out o) 1).trans rfl
    have xa2 := fun o => (blk_cell (blk_alloc K3.out o) 2).trans rfl
    cases hc : C x with
    | none =>
      have HL := Aside0.mk (show (C x).getD ⟨0, 0, ⟨#[]⟩⟩ = ⟨0, 0, ⟨#[]⟩⟩ ∧ (C x).isSome = false by rw [hc]; exact ⟨rfl, rfl⟩)
      have HCX := Aside0.mk hc
      clear hc
      go_wp2_with (first
        | (at_lookup; refine lookC_event _ rfl _ _ rfl b n D C x ⟨0, 0, ⟨#[]⟩⟩ false rfl HMR.out HC.out rfl OX.out HL.out.1 HL.out.2 ?_)
        | (at_mapUpdate; refine updC_event _ rfl _ _ _ rfl b n D C x x rfl (HMR.out.alloc _) HC.out HN.out rfl rfl OX.out ?_; intro w3 hm3 hg3; have HM3 := Aside0.mk hm3; have HG3 := Aside0.mk hg3; have K33 := Aside0.mk (blk_grown (blk_alloc K3.out _) hg3 (by have := G3.out; have := HLT.out; simp; omega)); have K43 := Aside0.mk (blk_grown (blk_alloc K4.out _) hg3 (by have := G4.out; have := HLT.out; simp; omega)); have HGW := Aside0.mk (World.grownBy.trans (grown_of_below (below_alloc HB.out _) (some b)) hg3); clear hm3 hg3 x0 x1 x2 xa0 xa1 xa2; have y0 := (blk_cell K33.out 0).trans rfl; have y1 := (blk_cell K33.out 1).trans rfl; have y2 := (blk_cell K33.out 2).trans rfl; have z0 := (blk_cell K43.out 0).trans rfl; have z1 := (blk_cell K43.out 1).trans rfl; have z2 := (blk_cell K43.out 2).trans rfl; have f0 := blk_frozen K43.out 0; have f1 := blk_frozen K43.out 1; have f2 := blk_frozen K43.out 2)
        | go_in)
      refine bodyPost_ret (results_cell_row rfl _ _ b4 23 #[.int .i64 x.f0, .int .i64 x.f1, .string x.f2] (0, 0) _ rfl (by refine blk_put (cs := #[.int .i64 x.f0, .int .i64 x.f1, .string (⟨#[]⟩ : ByteArray)]) ?_ 2 _ rfl; refine blk_put (cs := #[.int .i64 x.f0, .int .i64 0, .string (⟨#[]⟩ : ByteArray)]) ?_ 1 _ rfl; refine blk_put (cs := #[.int .i64 0, .int .i64 0, .string (⟨#[]⟩ : ByteArray)]) ?_ 0 _ rfl; exact K43.out) Tryd.underlying23 rfl (by kernel_rfl)) rfl ?_
      have hlb : b < b4 := by have := G4.out; have := HLT.out; omega
      exact ⟨x, C.set x x, _, rfl, HT.out _ _ (.new HCX.out), OX.out, HC.out.put OX.out, mapT_set (mapT_set (mapT_set HM3.out hlb _) hlb _) hlb _, grown_set (grown_set (grown_set HGW.out G4.out _) G4.out _) G4.out _⟩
    | some u =>
      have HL := Aside0.mk (show (C x).getD ⟨0, 0, ⟨#[]⟩⟩ = u ∧ (C x).isSome = true by rw [hc]; exact ⟨rfl, rfl⟩)
      have HCX := Aside0.mk hc
      have OU := Aside0.mk (HI.out.ok x u hc)
      have z0 := fun o => (blk_cell (blk_alloc K4.out o) 0).trans rfl
      have z1 := fun o => (blk_cell (blk_alloc K4.out o) 1).trans rfl
      have z2 := fun o => (blk_cell (blk_alloc K4.out o) 2).trans rfl
      have f0 := fun o => blk_frozen (blk_alloc K4.out o) 0
      have f1 := fun o => blk_frozen (blk_alloc K4.out o) 1
      have f2 := fun o => blk_frozen (blk_alloc K4.out o) 2
      have v0 := fun o => blk_frozen (blk_alloc K3.out o) 0
      have v1 := fun o => blk_frozen (blk_alloc K3.out o) 1
      have v2 := fun o => blk_frozen (blk_alloc K3.out o) 2
      clear hc
      by_cases he : eqT u x = true
      · have hq : (u.f0 == x.f0 && (u.f1 == x.f1 && (u.f2.toList == x.f2.toList))) = true := he
        have HE := Aside0.mk ((eqT_iff u x).1 he)
        clear he
        go_wp2_with (first
          | (at_lookup; refine lookC_event _ rfl _ _ rfl b n D C x u true rfl HMR.out HC.out rfl OX.out HL.out.1 HL.out.2 ?_)
          | go_in)
        refine bodyPost_ret (results_cell_row rfl _ _ b4 23 #[.int .i64 x.f0, .int .i64 x.f1, .string x.f2] (0, 0) _ rfl (by refine blk_put (cs := #[.int .i64 x.f0, .int .i64 x.f1, .string (⟨#[]⟩ : ByteArray)]) ?_ 2 _ rfl; refine blk_put (cs := #[.int .i64 x.f0, .int .i64 0, .string (⟨#[]⟩ : ByteArray)]) ?_ 1 _ rfl; refine blk_put (cs := #[.int .i64 0, .int .i64 0, .string (⟨#[]⟩ : ByteArray)]) ?_ 0 _ rfl; exact blk_alloc K4.out _) Tryd.underlying23 rfl (by kernel_rfl)) rfl ?_
        have hlb : b < b4 := by have := G4.out; have := HLT.out; omega
        exact ⟨x, C, D, rfl, HT.out _ _ (.self (by rw [HCX.out, HE.out])), OX.out, HC.out, (mapT_set (mapT_set (mapT_set (HMR.out.alloc _) hlb _) hlb _) hlb _).mono (Nat.le_succ n), grown_set (grown_set (grown_set (grown_of_below (below_alloc HB.out _) _) G4.out _) G4.out _) G4.out _⟩
      · have hq : (u.f0 == x.f0 && (u.f1 == x.f1 && (u.f2.toList == x.f2.toList))) = false := Bool.eq_false_iff.2 he
        have HE := Aside0.mk (show u ≠ x from fun e => he ((eqT_iff u x).2 e))
        clear he
        go_wp2_with (first
          | (at_lookup; refine lookC_event _ rfl _ _ rfl b n D C x u true rfl HMR.out HC.out rfl OX.out HL.out.1 HL.out.2 ?_)
          | go_in)
        go_roundg (rankT u + 1)
        case measure => have := HI.out.down x u HCX.out HE.out; have := HR.out; omega
        case rel =>
          have hne : b4 ≠ b3 := fun e => N34.out e.symm
          refine ⟨u, OU, ⟨by omega⟩, ⟨fun r C' h => HT.out _ _ (.step HCX.out HE.out h)⟩, ⟨?_⟩, ⟨?_⟩, ⟨?_⟩⟩
          · refine blk_put (cs := #[.int .i64 u.f0, .int .i64 u.f1, .string x.f2]) ?_ 2 _ rfl
            refine blk_put (cs := #[.int .i64 u.f0, .int .i64 x.f1, .string x.f2]) ?_ 1 _ rfl
            refine blk_put (cs := #[.int .i64 x.f0, .int .i64 x.f1, .string x.f2]) ?_ 0 _ rfl
            exact blk_alloc K3.out _
          · exact (Below.heap_setCell _ _ _ b4 hne).trans ((Below.heap_setCell _ _ _ b4 hne).trans ((Below.heap_setCell _ _ _ b4 hne).trans (blk_alloc K4.out _)))
          · exact below_set (below_set (below_set (below_alloc HB.out _) G3.out) G3.out) G3.out
end Go.Proofs.YtnomgmlfagiffaaDoor.T
