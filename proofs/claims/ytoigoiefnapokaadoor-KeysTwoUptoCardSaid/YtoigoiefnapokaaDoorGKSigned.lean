/- (*keys.Ring).Signed: the digests that a name signed. -/
import Derived.Test.YtoigoiefnapokaaDoorGKSorted
import Derived.Maps.RangeWalk
set_option linter.unusedVariables false
set_option linter.unusedSimpArgs false
namespace Go.Proofs.YtoigoiefnapokaaDoor.T
open Go.RowKit Go.Maps Go.MuLone Go.Proofs.YtoigoiefnapokaaDoorW.PrintWords Go.Proofs.YtoigoiefnapokaaDoorW.PrintLast
/-- Every key is a pair's. -/
def OnlyP (D : DataW Value) : Prop := ∀ kl, Maps.has D kl = true → ∃ a, okP a ∧ kl = klP a
theorem onlyP_nil : OnlyP (.map []) := fun kl h => by simp [Maps.has_eq] at h
theorem OnlyP.put {D : DataW Value} (h : OnlyP D) {a : ByteArray × List Int} (ha : okP a) (hm : IsMap D) (v : DataW Value) : OnlyP (D.put (klP a) v) := by
  intro kl hk
  by_cases e : kl = klP a
  · exact ⟨a, ha, e⟩
  · rw [has_put_other e] at hk
    exact h kl hk
theorem key_pair {D : DataW Value} (h : OnlyP D) {v : Value} {kl : Lit} (hk : keyOf Tryd.prog 69 v = some kl) (hh : Maps.has D kl = true) : ∃ (s : ByteArray) (d : Dg), okS s ∧ v = pairV s d.1 ∧ kl = klP (s, d.1) := by
  obtain ⟨⟨s, d⟩, ⟨h1, h2⟩, rfl⟩ := h kl hh
  exact ⟨s, ⟨d, h2⟩, h1, lawP.inj hk (keyP h1 h2), rfl⟩
/-- What was met so far. -/
structure Met (D : DataW Value) (s : ByteArray) (left : Lit → Bool) (ds : List Dg) : Prop where
  sub : ∀ kl, left kl = true → Maps.has D kl = true
  nd : ds.Nodup
  mem : ∀ d : Dg, d ∈ ds ↔ (Maps.has D (klP (s, d.1)) = true ∧ left (klP (s, d.1)) = false)
theorem met_start (D : DataW Value) (s : ByteArray) : Met D s (Maps.has D) [] := ⟨fun _ h => h, List.nodup_nil, fun d => ⟨fun h => by simp at h, fun h => by rw [h.1] at h; cases h.2⟩⟩
theorem met_skip {D : DataW Value} {s : ByteArray} {left : Lit → Bool} {ds : List Dg} (h : Met D s left ds) (ho : okS s) {s' : ByteArray} (ho' : okS s') {d' : Dg} (hne : s' ≠ s) : Met D s (fun z => left z && !z.sameKey (klP (s', d'.1))) ds := by
  refine ⟨fun kl hk => h.sub kl (by simp at hk; exact hk.1), h.nd, fun d => ?_⟩
  have e : (klP (s, d.1)).sameKey (klP (s', d'.1)) = false := sameKey_ne (fun e => hne (congrArg Prod.fst (klP_inj _ _ ⟨ho, d.2⟩ ⟨ho', d'.2⟩ e)).symm)
  rw [h.mem d, e]
  simp
theorem met_take {D : DataW Value} {s : ByteArray} {left : Lit → Bool} {ds : List Dg} (h : Met D s left ds) (ho : okS s) {d' : Dg} (hl : left (klP (s, d'.1)) = true) : Met D s (fun z => left z && !z.sameKey (klP (s, d'.1))) (ds ++ [d']) := by
  refine ⟨fun kl hk => h.sub kl (by simp at hk; exact hk.1), ?_, fun d => ?_⟩
  · refine List.nodup_append.2 ⟨h.nd, by simp, ?_⟩
    intro a ha b hb e
    have hb' : b = d' := by simpa using hb
    subst hb'
    subst e
    have := ((h.mem a).1 ha).2
    rw [hl] at this
    cases this
  · rw [List.mem_append, h.mem d, List.mem_singleton]
    by_cases e : d = d'
    · subst e
      have hs : (klP (s, d.1)).sameKey (klP (s, d.1)) = true := WideAt.sameKey_self (klP_key _ ⟨ho, d.2⟩)
      simp [hs, h.sub _ hl]
    · have e : (klP (s, d.1)).sameKey (klP (s, d'.1)) = false := sameKey_ne (fun e2 => e (Subtype.ext (congrArg Prod.snd (klP_inj _ _ ⟨ho, d.2⟩ ⟨ho, d'.2⟩ e2))))
      rw [e]
      simp_all
theorem met_end {D : DataW Value} {s : ByteArray} {left : Lit → Bool} {ds : List Dg} (h : Met D s left ds) (h0 : ∀ kl, left kl = false) (d : Dg) : d ∈ ds ↔ Maps.has D (klP (s, d.1)) = true := by
  rw [h.mem d, h0]
  simp
theorem ranges_same {P : Program} {k : TypeId} {R : Value → Option (DataW Value × List MemPlace)} {b r n cnt : Nat} {D : DataW Value} {left : Lit → Bool} {w w' : World} (h : w.ranges P k R b r n D left cnt) (hb : w'.heap[b]? = w.heap[b]?) (hr : w'.heap[r]? = w.heap[r]?) : w'.ranges P k R b r n D left cnt := by
  obtain ⟨es, clock, since, seen, c0, h1, F, hs, hD, h2, rest⟩ := h
  exact ⟨es, clock, since, seen, c0, hb.trans h1, F, hs, hD, hr.trans h2, rest⟩
theorem R_cases {w : World} {base : Nat} {ok : Nat → Prop} {v : Value} {ds : List Dg} (h : kD.R 27 w base ok v (ds.map (·.1))) : (v = .slice none 0 0 ∧ ds = []) ∨ ∃ g cap, v = .slice (some ⟨g, 0, none⟩) ds.length cap := by
  obtain ⟨inner, hown⟩ := Kd.R_own h
  change w.ownsRow base 27 32 _ _ _ at hown
  rw [List.length_map] at hown
  obtain ⟨hil, hown2⟩ := hown
  rcases hown2 with ⟨h0, h1⟩ | ⟨g', cap', cur, hv, hbase, hb, hnc, hcm, hcs, htk⟩
  · exact Or.inl ⟨h0, List.length_eq_zero_iff.1 h1⟩
  · exact Or.inr ⟨g', cap', hv⟩
theorem tail_at {w : World} {b : Nat} {s : ByteArray} {d : List Int} {t : TypeId} (h : w.heap[b]? = some (.cells (Value.string s :: nums .u8 d).toArray t (0, 0))) : ∀ j v, (nums IntKind.u8 d)[j]? = some v → w.cell? ((⟨b, 1, none⟩ : Addr).add j) = some v := by
  intro j v hj
  have e : (⟨b, 1, none⟩ : Addr).add j = ⟨b, j + 1, none⟩ := by unfold Addr.add; split <;> simp_all <;> omega
  rw [e]
  exact arr_cell h (j + 1) hj
theorem fresh_ne {r n k : Nat} (h : r < n) (hk : n ≤ k) : k ≠ r := by omega
theorem pair_facts (s : ByteArray) {d : List Int} (h : d.length = 32) : (Tryd.prog.info? 69).map (·.size) = some ((Value.string s :: nums IntKind.u8 d).toArray).size ∧ ((Value.string s :: nums IntKind.u8 d).toArray).size = 33 ∧ ((Value.string s :: nums IntKind.u8 d).toArray).all (·.oneCell') = true := by
  have e : ((Value.string s :: nums IntKind.u8 d).toArray).size = 33 := by rw [List.size_toArray, List.length_cons, nums_length, h]
  refine ⟨by rw [e]; kernel_rfl, e, ?_⟩
  rw [Array.all_eq_true_iff_forall_mem]
  intro v hv
  rw [List.mem_toArray] at hv
  rcases List.mem_cons.1 hv with rfl | hv
  · rfl
  · unfold nums at hv
    obtain ⟨x, _, rfl⟩ := List.mem_map.1 hv
    rfl
theorem loadS_run {o : Oper} {a : Act} {w : World} (x : Operand) (ho : o.op = .load 9 x) (p : Addr) (hx : a.eval x = .pointer (some p)) (s : ByteArray) (hc : w.cell? p = some (.string s)) :
    (execOp a.eval o).run Tryd.prog w = .ok (.value (.string s)) w := by
  have h1 := Tryd.isAgg9 w
  unfold execOp
  simp only [ho, hx]
  simp [Instr.loadAt, Instr.sureAddr, loadVar, h1, go_sem, hc]
set_option maxHeartbeats 8000000 in
set_option maxRecDepth 100000 in
theorem slist_calls (w : World) (x : RV) (base : Nat) (hx : x.At w base 0) (hO : OnlyP x.Ds) (s : ByteArray) (ho : okS s) (hn : x.ns ≤ 100000) :
    Calls Tryd.prog 17 #[.pointer (some ⟨x.b, 0, none⟩), .string s] w fun e w' => ∃ (A : Option Addr) (c : Nat) (ds : List Dg), e = .returned (.slice A ds.length c) ∧ ds.Nodup ∧ (∀ d : Dg, d ∈ ds ↔ Maps.has x.Ds (klP (s, d.1)) = true) ∧ ds.Pairwise (fun a b => ¬ cfD b a < 0) ∧
      kD.R 27 w' w.heap.size (fun _ => True) (.slice A ds.length c) (ds.map (·.1)) ∧ Below w.heap.size w w' := by
  have HX := Aside0.mk hx
  have HO := Aside0.mk ho
  have HOP := Aside0.mk hO
  have HN := Aside0.mk hn
  have hu63 := Tryd.underlying66
  clear hx hO ho hn
  go_enter_defers Tryd.func17, Tryd.ntmps17
  go_wp2_with (first
    | (go_at_call 25; go_loud (refine (lock_free muLib ⟨x.b, 0, none⟩ _ HX.out.c0 (blk_frozen HX.out.blk 0)).mono ?_; rintro e w3 ⟨rfl, hw3⟩; have HW3 := Aside0.mk hw3; have X3 := Aside0.mk (show x.At w3 base 1 by rw [hw3]; exact HX.out.lock 1); have c4 := X3.out.c4; clear hw3))
    | (at_range; go_loud (refine wpList_range_own _ rfl (.tmp 17) 64 rfl 69 27 lawP Tryd.underlying64 RD x.bs x.ns x.Ds rfl X3.out.signed ?_; intro w4 hrg0 hg0 hs0; obtain ⟨r, hr⟩ : ∃ r, w3.heap.size = r := ⟨_, rfl⟩; rw [hr] at hrg0 ⊢; have HRG0 := Aside0.mk hrg0; have HG0 := Aside0.mk hg0; have HSR := Aside0.mk hr; clear hrg0 hg0 hs0 hr)))
  go_frame
  clear c4
  go_loopg [5] x.ns (fun gg s5 wr => ∃ (left : Lit → Bool) (cnt : Nat) (ds : List Dg), Aside0 (cnt ≤ gg ∧ ds.length + cnt ≤ x.ns) ∧ Aside0 (wr.ranges Tryd.prog 69 RD x.bs r x.ns x.Ds left cnt) ∧ Aside0 (kD.R 27 wr w3.heap.size (fun k => k ≠ r) s5 (ds.map (·.1))) ∧ Aside0 (Met x.Ds s left ds) ∧ Aside0 (Below w3.heap.size w3 wr))
  case atStart => exact ⟨_, _, [], ⟨X3.out.signed.size_le, by simpa using X3.out.signed.size_le⟩, HRG0, ⟨Kd.R_nil _ _ _ _ _⟩, ⟨met_start _ _⟩, ⟨HG0.out.os, HG0.out.tape, HG0.out.output, HG0.out.size, fun k hk => HG0.out.block k hk (by simp)⟩⟩
  case round =>
    obtain ⟨left, cnt, ds, HC, HRG, HR, HM, HB⟩ := hrel
    go_wp2_with (at_next; go_loud (refine wpList_next_ranges _ rfl (.tmp 18) rfl 69 lawP RD (fun v : Value => v) (fun v : Value => v) (fun key _ _ => ⟨key, rfl⟩) (fun v _ _ => ⟨v, rfl⟩) x.bs r x.ns x.Ds left cnt rfl HRG.out ?_ ?_))
    · intro hc0 hl0
      have HL0 := Aside0.mk hl0
      clear hc0 hl0
      rcases R_cases HR.out with ⟨rfl, rfl⟩ | ⟨g, cap, rfl⟩
      · have XE := Aside0.mk (X3.out.below HB.out)
        go_wp2_with (go_at_call 29; go_loud ((with_reducible refine (sortD_none _ _).mono ?_); rintro e w6 ⟨rfl, rfl⟩))
        refine leaves_cons (f := 26) (args := #[.pointer (some ⟨x.b, 0, none⟩)]) (by simp) (by simp [go_sem]) ?_
        refine (unlock_deferred muLib ⟨x.b, 0, none⟩ .returning _ XE.out.c0 (blk_frozen XE.out.blk 0)).mono ?_
        rintro e u' w'' ⟨rfl, rfl, rfl⟩
        refine ⟨_, results_tmp rfl _ _ _, none, 0, [], rfl, List.nodup_nil, fun a b => met_end HM.out HL0.out ⟨a, b⟩, List.Pairwise.nil, Kd.R_nil _ _ _ _ _, lock_back (Below.refl _ _) (HW3.out ▸ HB.out) HX.out.blk (XE.out.lock 0).blk⟩
      · have hsc := sortD_calls g cap ds wr w3.heap.size (Kd.R_mono HR.out (fun _ _ => trivial)) (by have := HC.out.2; have := HN.out; omega)
        have HGB := Aside0.mk (Kd.R_base HR.out g (by simp [Value.ownBlock]))
        go_wp2_with (go_at_call 29; go_loud (refine hsc.mono ?_; rintro e w6 ⟨rfl, hg6, l', hp6, hs6, hr6⟩; have HG6 := Aside0.mk hg6; have HP6 := Aside0.mk hp6; have HS6 := Aside0.mk hs6; have HR6 := Aside0.mk hr6; clear hg6 hp6 hs6 hr6 hsc))
        have XE := Aside0.mk ((X3.out.below HB.out).grown X3.out.under HG6.out (fun k hk => by cases hk; exact HGB.out))
        have HB6 := Aside0.mk (pw_below_grown HB.out _ HB.out.size HG6.out (fun k hk => by cases hk; exact HGB.out))
        refine leaves_cons (f := 26) (args := #[.pointer (some ⟨x.b, 0, none⟩)]) (by simp) (by simp [go_sem]) ?_
        refine (unlock_deferred muLib ⟨x.b, 0, none⟩ .returning _ XE.out.c0 (blk_frozen XE.out.blk 0)).mono ?_
        rintro e u' w'' ⟨rfl, rfl, rfl⟩
        have hlen : ds.length = l'.length := HP6.out.length_eq.symm
        have hsz : w.heap.size ≤ w3.heap.size := by rw [HW3.out]; simp
        refine ⟨_, results_tmp rfl _ _ _, some ⟨g, 0, none⟩, cap, l', (by rw [hlen]; rfl), HP6.out.nodup_iff.2 HM.out.nd, fun a b => (HP6.out.mem_iff).trans (met_end HM.out HL0.out ⟨a, b⟩), HS6.out, ?_, lock_back (Below.refl _ _) (HW3.out ▸ HB6.out) HX.out.blk (XE.out.lock 0).blk⟩
        rw [← hlen]
        exact Kd.R_lower (Kd.R_mono (Kd.R_far (Kd.R_bound HR6.out) (fun k hk => by have := blk_lt X3.out.blk; have := hk.2.1; show k ≠ x.b; omega) _) (fun _ _ => trivial)) hsz
    · intro key c kl yd yp w5 cnt5 hkey hlk hv hat hrg5 hlt hg5 hs5 hen
      obtain ⟨s', d', hos', rfl, rfl⟩ := key_pair HOP.out hkey (HM.out.sub _ hlk)
      have HOS := Aside0.mk hos'
      have HLT := Aside0.mk hlt
      have HRG5 := Aside0.mk hrg5
      have HB5 := Aside0.mk (pw_below_grown HB.out _ HB.out.size hg5 (fun k hk => by cases hk; exact Nat.le_of_eq HSR.out))
      have HR5 := Aside0.mk (Kd.R_grown HR.out hg5 (fun k hk e => hk (by cases e; rfl)))
      have HLK0 := Aside0.mk hlk
      clear hkey hv hat hrg5 hlt hg5 hs5 hos' hlk
      have hu69 := Tryd.underlying69
      unfold pairV at hen ⊢
      by_cases hne : s' = s
      · have HNE := Aside0.mk hne
        have HLK := Aside0.mk (show left (klP (s, d'.1)) = true by rw [← hne]; exact HLK0.out)
        have HRG5 := Aside0.mk (show w5.ranges Tryd.prog 69 RD x.bs r x.ns x.Ds (fun z => left z && !z.sameKey (klP (s, d'.1))) cnt5 by rw [← hne]; exact HRG5.out)
        have HE := Aside0.mk (show decide (s' = s) = true from decide_eq_true hne)
        have PF := Aside0.mk (pair_facts s' d'.2.1)
        have HLEN := Aside0.mk (show ((ds.map (·.1)).length + 1) * 32 ≤ 140737488355328 by rw [List.length_map]; have := HC.out.2; have := HN.out; have := HLT.out; omega)
        have PF0 := Aside0.mk (pair_facts ⟨#[]⟩ (d := zeroD) rfl)
        clear hne
        go_wp2_with (first
          | ((with_reducible refine gate_dst (N := 6) rfl ?_); refine box_event ?hg (N := 6) ?hd (cs := (.string ⟨#[]⟩ :: nums .u8 zeroD).toArray) (t := 69) ?hr ?_; (case hd => rfl); (case hg => rfl); (case hr => first | (go_simp; done) | (go_simp; rfl)); intro b6 hb6 w6 hbox hbl; have B6 := Aside0.mk hbox; have G6 := Aside0.mk (show w5.heap.size ≤ b6 by omega); have L6 := Aside0.mk hbl; clear hbox hbl hb6)
          | (refine put_row rfl 69 (.tmp 6) (.tmp 22) rfl b6 (.string s' :: nums .u8 d'.1).toArray rfl rfl 69 _ B6.out PF.out.1 (by rw [PF.out.2.1, PF0.out.2.1]) PF.out.2.2 ?_; have B7 := Aside0.mk (setRow_heap _ b6 _ (.string s' :: nums .u8 d'.1).toArray _ _ B6.out); have E7 := Aside0.mk (fun c => setRow_other w6 b6 c (.string s' :: nums .u8 d'.1).toArray); have HB7 := Aside0.mk (below_row (below_step HB5.out L6.out) (Nat.le_trans HB5.out.size G6.out) (.string s' :: nums .u8 d'.1).toArray); (obtain ⟨w7, hw7⟩ : ∃ z, w6.setRow b6 (.string s' :: nums .u8 d'.1).toArray = z := ⟨_, rfl⟩); rw [hw7] at B7 E7 HB7 ⊢; clear hw7; have HR7 := Aside0.mk (Kd.R_mono (Kd.R_step (Kd.R_below (Kd.R_elderB HR5.out b6 G6.out) L6.out) (fun k hk _ => E7.out k hk.2)) (fun k hk => hk.1)); have HRG7 := Aside0.mk (ranges_same (ranges_same HRG5.out (L6.out.block _ HRG5.out.owns.lt) (L6.out.block _ HRG5.out.lt)) (E7.out _ (by have := HRG5.out.owns.lt; have := G6.out; omega)) (E7.out _ (by have := HRG5.out.lt; have := G6.out; omega))); have HRL7 := Aside0.mk HRG7.out.lt)
          | ((with_reducible refine gate_dst (N := 24) rfl ?_); go_loud (refine Kd.event_run rfl (loadS_run (.tmp 23) rfl _ rfl s' (arr_cell B7.out 0 rfl)) ?_))
          | ((with_reducible refine gate_dst (N := 26) rfl ?_); go_loud (refine Kd.event_run rfl (eqlS_run _ _ (.tmp 24) (.tmp 25) rfl rfl _ _ rfl rfl true HE.out) ?_))
          | ((with_reducible refine gate_dst (N := 29) rfl ?_); go_loud (refine Kd.event_run rfl (loadD_run (.tmp 28) rfl ⟨b6, 1, none⟩ rfl d'.1 d'.2.1 (tail_at B7.out)) ?_))
          | ((with_reducible refine gate_dst (N := 30) rfl ?_); go_loud (refine Kd.event_run rfl (bslD_run (.tmp 29) d'.1 d'.2.1 rfl rfl) ?_))
          | ((with_reducible refine gate_builtin (b := .append) (xs := #[.tmp 27, .tmp 30]) rfl ?_); at_builtin; go_loud (refine Kd.R_append kD (w0 := w3) w3.heap.size rfl (.tmp 27) (.tmp 30) 36 27 (digV zeroD) 32 rfl Tryd.underlying36 infoDg (by rfl) (by decide) (by decide) u5 (ds.map (·.1)) d'.1 (nums .u8 d'.1) (fun k => k ≠ r) (fun _ => False) rfl rfl (kD_M d'.2.1) (fun k hk => hk.elim) ?e5 ?e6 ?e7 ?e8 ?e9 ?_; (case e5 => exact fun k hk => fresh_ne HRL7.out hk); (case e6 => exact HR7.out); (case e7 => exact HB7.out); (case e8 => exact HB7.out.size); (case e9 => exact HLEN.out); intro v9 w9 hr9 hb9 hg9 _; have HR9 := Aside0.mk hr9; have HB9 := Aside0.mk hb9; have HG9 := Aside0.mk hg9; clear hr9 hb9 hg9))
          )
        go_roundg cnt5
        case measure => have := HC.out.1; have := HLT.out; omega
        case rel => exact ⟨_, cnt5, ds ++ [d'], ⟨Nat.le_refl _, by rw [List.length_append, List.length_singleton]; have := HC.out.2; have := HLT.out; omega⟩, ⟨ranges_same HRG7.out (HG9.out.block _ HRG7.out.owns.lt (fun e => by have := Kd.R_base HR7.out _ e.symm; have := X3.out.signed.lt; omega)) (HG9.out.block _ HRG7.out.lt (fun e => HR7.out.1 _ e.symm rfl))⟩, ⟨by rw [List.map_append]; exact HR9.out⟩, ⟨met_take HM.out HO.out HLK.out⟩, HB9⟩
      · have HNE := Aside0.mk hne
        have HE := Aside0.mk (show decide (s' = s) = false from decide_eq_false hne)
        have PF := Aside0.mk (pair_facts s' d'.2.1)
        have PF0 := Aside0.mk (pair_facts ⟨#[]⟩ (d := zeroD) rfl)
        clear hne
        go_wp2_with (first
          | ((with_reducible refine gate_dst (N := 6) rfl ?_); refine box_event ?hg (N := 6) ?hd (cs := (.string ⟨#[]⟩ :: nums .u8 zeroD).toArray) (t := 69) ?hr ?_; (case hd => rfl); (case hg => rfl); (case hr => first | (go_simp; done) | (go_simp; rfl)); intro b6 hb6 w6 hbox hbl; have B6 := Aside0.mk hbox; have G6 := Aside0.mk (show w5.heap.size ≤ b6 by omega); have L6 := Aside0.mk hbl; clear hbox hbl hb6)
          | (refine put_row rfl 69 (.tmp 6) (.tmp 22) rfl b6 (.string s' :: nums .u8 d'.1).toArray rfl rfl 69 _ B6.out PF.out.1 (by rw [PF.out.2.1, PF0.out.2.1]) PF.out.2.2 ?_; have B7 := Aside0.mk (setRow_heap _ b6 _ (.string s' :: nums .u8 d'.1).toArray _ _ B6.out); have E7 := Aside0.mk (fun c => setRow_other w6 b6 c (.string s' :: nums .u8 d'.1).toArray); have HB7 := Aside0.mk (below_row (below_step HB5.out L6.out) (Nat.le_trans HB5.out.size G6.out) (.string s' :: nums .u8 d'.1).toArray); (obtain ⟨w7, hw7⟩ : ∃ z, w6.setRow b6 (.string s' :: nums .u8 d'.1).toArray = z := ⟨_, rfl⟩); rw [hw7] at B7 E7 HB7 ⊢; clear hw7; have HR7 := Aside0.mk (Kd.R_mono (Kd.R_step (Kd.R_below (Kd.R_elderB HR5.out b6 G6.out) L6.out) (fun k hk _ => E7.out k hk.2)) (fun k hk => hk.1)); have HRG7 := Aside0.mk (ranges_same (ranges_same HRG5.out (L6.out.block _ HRG5.out.owns.lt) (L6.out.block _ HRG5.out.lt)) (E7.out _ (by have := HRG5.out.owns.lt; have := G6.out; omega)) (E7.out _ (by have := HRG5.out.lt; have := G6.out; omega))); have HRL7 := Aside0.mk HRG7.out.lt)
          | ((with_reducible refine gate_dst (N := 24) rfl ?_); go_loud (refine Kd.event_run rfl (loadS_run (.tmp 23) rfl _ rfl s' (arr_cell B7.out 0 rfl)) ?_))
          | ((with_reducible refine gate_dst (N := 26) rfl ?_); go_loud (refine Kd.event_run rfl (eqlS_run _ _ (.tmp 24) (.tmp 25) rfl rfl _ _ rfl rfl false HE.out) ?_))
          )
        go_roundg cnt5
        case measure => have := HC.out.1; have := HLT.out; omega
        case rel => exact ⟨_, cnt5, ds, ⟨Nat.le_refl _, by have := HC.out.2; have := HLT.out; omega⟩, HRG7, HR7, ⟨met_skip HM.out HO.out HOS.out HNE.out⟩, HB7⟩
end Go.Proofs.YtoigoiefnapokaaDoor.T
