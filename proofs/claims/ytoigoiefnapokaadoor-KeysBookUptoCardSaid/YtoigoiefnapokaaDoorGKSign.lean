/- The walk of (*keys.Ring).Sign, of a name that is enrolled. -/
import Derived.Test.YtoigoiefnapokaaDoorGKVer
set_option linter.unusedVariables false
set_option linter.unusedSimpArgs false
namespace Go.Proofs.YtoigoiefnapokaaDoor.T
open Go.RowKit Go.Maps Go.MuLone Go.Proofs.YtoigoiefnapokaaDoorW.PrintWords Go.Proofs.YtoigoiefnapokaaDoorW.PrintLast
theorem isD_set {d : List Int} (h : IsD d) (i : Nat) (v : Int) (hv : 0 ≤ v ∧ v < 256) : IsD (d.set i v) := by
  refine ⟨by rw [List.length_set]; exact h.1, fun y hy => ?_⟩
  rcases List.mem_or_eq_of_mem_set hy with hy | rfl
  · exact h.2 y hy
  · exact hv
theorem dig_is (x : HS) : IsD (digf x) := by
  have hm : ∀ y : Int, 0 ≤ y % 256 ∧ y % 256 < 256 := fun y => ⟨Int.emod_nonneg _ (by decide), Int.emod_lt_of_pos _ (by decide)⟩
  exact iter_inv (p := IsD) (fun i d h => isD_set (isD_set (isD_set (isD_set h _ _ (hm _)) _ _ (hm _)) _ _ (hm _)) _ _ (hm _)) 8 _ zeroD_is
theorem mac_is (key b : List Int) : IsD (macf key b) := dig_is _
theorem mac_callsN (w : World) (A B : Option Addr) (ca cb na nb : Nat) (key b : List Int) (hF : LaidF w) (hL : LaidR w) (hA : ReadsInt w .u8 A key.length key) (hca : key.length ≤ ca) (hna : key.length ≤ 1152921504606846976)
    (hB : ReadsInt w .u8 B b.length b) (hcb : b.length ≤ cb) (hnb : b.length ≤ 1152921504606846976) (h1 : key.length = na) (h2 : b.length = nb) :
    Calls Tryd.prog 8 #[.slice A na ca, .slice B nb cb] w fun e w' => e = .returned (.agg (nums .u8 (macf key b)).toArray) ∧ Below w.heap.size w w' := by
  subst h1
  subst h2
  exact mac_calls w A B ca cb key b hF hL hA hca hna hB hcb hnb
theorem digest_callsN (w : World) (g h : Nat) (ca cb : Nat) (t u : TypeId) (key b m : List Int) (hm : macf key b = m) (hF : LaidF w) (hL : LaidR w) (hk : IsD key) (hb : IsD b) (hg : w.heap[g]? = some (.cells (nums .u8 key).toArray t (0, 0))) (hh : w.heap[h]? = some (.cells (nums .u8 b).toArray u (0, 0))) (hca : 32 ≤ ca) (hcb : 32 ≤ cb) :
    Calls Tryd.prog 8 #[.slice (some ⟨g, 0, none⟩) 32 ca, .slice (some ⟨h, 0, none⟩) 32 cb] w fun e w' => e = .returned (.agg (nums .u8 m).toArray) ∧ Below w.heap.size w w' := by
  subst hm
  exact mac_callsN w _ _ ca cb 32 32 key b hF hL (row_reads hg (by rw [hk.1]; decide)) (by rw [hk.1]; exact hca) (by rw [hk.1]; decide) (row_reads hh (by rw [hb.1]; decide)) (by rw [hb.1]; exact hcb) (by rw [hb.1]; decide) hk.1 hb.1
section
variable {ops : Array Oper} {op : Oper} {a : Act}
theorem update_runs {W w1 : World} {t : TypeId} {vm vk vv : Value} (m k v : Operand) (ho : op.op = .mapUpdate t m k v) (hm : a.eval m = vm) (hk : a.eval k = vk) (hv : a.eval v = vv) (hr : (Instr.mapUpdate t vm vk vv).run Tryd.prog W = .ok () w1) : (execOp a.eval op).run Tryd.prog W = .ok .skip w1 := by
  unfold execOp
  simp only [ho, Sem.run_bind, hm, hk, hv, hr, Result.andThen_ok]
  rfl
end
theorem reads_map_far {P : Program} {K : TypeId} {R : Value → Option (DataW Value × List MemPlace)} {w : World} {k : IntKind} {A : Option Addr} {n b m : Nat} {xs : List Int} {D : DataW Value} (h : ReadsInt w k A n xs) (hm : w.ownsMap P K R b m D) : ∀ ad, A = some ad → 0 < n → ad.block ≠ b := by
  intro ad had hp he
  obtain ⟨ad', had', hcc⟩ := h.2.2 hp
  rw [had] at had'
  injection had' with e
  subst e
  obtain ⟨es, cl, hm2, _⟩ := hm
  have h0 := hcc 0 hp
  have hb : (ad.add 0).block = b := by rw [← he]; unfold Addr.add; split <;> rfl
  unfold World.cell? at h0
  rw [hb, hm2] at h0
  simp at h0
/-- What a map's turn leaves. -/
theorem turned_below {w0 w W : World} {b : Nat} (h : w.mapTurned W b) (hB : Below w0.heap.size w0 w) (hb : w0.heap.size ≤ b) : Below w0.heap.size w0 W :=
  pw_below_grown hB _ hB.size h.grown (fun k hk => by injection hk with hk; subst hk; exact hb)
theorem turned_blk {w W : World} {b c : Nat} {o : Obj} (h : w.mapTurned W b) (hc : w.heap[c]? = some o) (hn : c ≠ b) : W.heap[c]? = some o :=
  (h.grown.block c (blk_lt hc) (fun e => hn (Option.some.inj e))).trans hc
theorem turned_keep {w W : World} {b : Nat} (h : w.mapTurned W b) : KeepBut w W b none := by
  refine ⟨h.grown.size, fun k hk hn _ => h.grown.block k hk (fun e => hn (Option.some.inj e))⟩
theorem lock_keep {w w2 w5 : World} {b bs : Nat} {o : Obj} {u v : Value} (h2 : Below w.heap.size w w2) (hs : (w2.setCell ⟨b, 0, none⟩ u).heap.size ≤ w5.heap.size) (h4 : ∀ k, k < w.heap.size → k ≠ bs → w5.heap[k]? = (w2.setCell ⟨b, 0, none⟩ u).heap[k]?) (ho : w.heap[b]? = some o) (he : (w5.setCell ⟨b, 0, none⟩ v).heap[b]? = some o) :
    KeepBut w (w5.setCell ⟨b, 0, none⟩ v) bs none := by
  refine ⟨?_, fun k hk hn _ => ?_⟩
  · have := h2.size; simp at hs ⊢; omega
  · by_cases e : k = b
    · subst e; rw [he, ho]
    · rw [Below.heap_setCell w5 ⟨b, 0, none⟩ v k e, h4 k hk hn, Below.heap_setCell w2 ⟨b, 0, none⟩ u k e, h2.block k hk]
/-- The ring with one more seal. -/
noncomputable def RV.signedWith (x : RV) (s : ByteArray) (d v : List Int) : RV := { x with ns := x.ns + 1, Ds := x.Ds.put (klP (s, d)) (.held (digV v)) }
set_option maxHeartbeats 8000000 in
set_option maxRecDepth 100000 in
theorem sign_calls (w0 w : World) (x : RV) (hx : x.At w w0.heap.size 0) (hB : Below w0.heap.size w0 w) (g : ByteArray → Option (List Int)) (hg : Says x.Dk klS okS g) (hgd : ∀ a v, g a = some v → IsD v) (s : ByteArray) (ho : okS s) (key : List Int) (hk : g s = some key) (d : List Int) (hd : IsD d)
    (hF : LaidF w0) (hL : LaidR w0) (hn : x.ns < maxLen) :
    Calls Tryd.prog 11 #[.pointer (some ⟨x.b, 0, none⟩), .string s, digV d] w fun e w' => e = .returned (.tuple #[digV (macf key d), .int .i64 0]) ∧ KeepBut w w' x.bs none ∧ (x.signedWith s d (macf key d)).At w' w0.heap.size 0 ∧ Below w0.heap.size w0 w' := by
  have HB := Aside0.mk hB
  have HX := Aside0.mk hx
  have HG := Aside0.mk hg
  have HGS := Aside0.mk hk
  have HK := Aside0.mk (hgd s key hk)
  have HO := Aside0.mk ho
  have HD := Aside0.mk hd
  have HF := Aside0.mk hF
  have HL := Aside0.mk hL
  have HN := Aside0.mk hn
  have hmi := mac_is key d
  obtain ⟨m, hm⟩ : ∃ m, macf key d = m := ⟨_, rfl⟩
  rw [hm] at hmi ⊢
  have HM := Aside0.mk hmi
  have HMM := Aside0.mk hm
  clear hmi hm
  have hu63 := Tryd.underlying66
  clear hB hx hg hgd ho hk hd hF hL hn
  unfold digV
  go_enter_defers Tryd.func11, Tryd.ntmps11
  have HDK := Aside0.mk (digest_facts HK.out.1)
  have HDM := Aside0.mk (digest_facts HM.out.1)
  go_wp2_with (first
    | ((with_reducible refine gate_dst (N := 5) rfl ?_); refine box_event ?hg (N := 5) ?hd (cs := (nums .u8 d).toArray) (t := 27) ?hr ?_; (case hd => rfl); (case hg => rfl); (case hr => first | (go_simp; done) | (go_simp; rfl)); intro b5 hb5 w1 hbox hbl; have B5 := Aside0.mk hbox; have HB1 := Aside0.mk hbl; have HA1 := Aside0.mk (below_step HB.out hbl); have X1 := Aside0.mk (HX.out.below hbl); have G5 := Aside0.mk (show w.heap.size ≤ b5 by omega); clear hb5 hbox hbl)
    | ((with_reducible refine gate_dst (N := 6) rfl ?_); refine box_event ?hg (N := 6) ?hd (cs := (nums .u8 zeroD).toArray) (t := 27) ?hr ?_; (case hd => rfl); (case hg => rfl); (case hr => first | (go_simp; done) | (go_simp; rfl)); intro b6 hb6 w2 hbox hbl; have B6 := Aside0.mk hbox; have HB2 := Aside0.mk (below_step HB1.out hbl); have HA2 := Aside0.mk (below_step HA1.out hbl); have B52 := Aside0.mk (blk_below B5.out hbl); have X2 := Aside0.mk (X1.out.below hbl); have N56 := Aside0.mk (show b5 < b6 by have := blk_lt B5.out; omega); have G6 := Aside0.mk (show w.heap.size ≤ b6 by have := HB1.out.size; omega); clear hb6 hbox hbl)
    | (go_at_call 25; go_loud (refine (lock_free muLib ⟨x.b, 0, none⟩ _ X2.out.c0 (blk_frozen X2.out.blk 0)).mono ?_; rintro e w3 ⟨rfl, hw3⟩; have HW3 := Aside0.mk hw3; have HA3 := Aside0.mk (show Below w0.heap.size w0 w3 by rw [hw3]; exact HA2.out.setCell HX.out.base.1 _); have X3 := Aside0.mk (show x.At w3 w0.heap.size 1 by rw [hw3]; exact X2.out.lock 1); have B53 := Aside0.mk (show w3.heap[b5]? = some (.cells (nums .u8 d).toArray 27 (0, 0)) by rw [hw3]; exact set_far B52.out (by have := blk_lt HX.out.blk; have := G5.out; omega)); have B63 := Aside0.mk (show w3.heap[b6]? = some (.cells (nums .u8 zeroD).toArray 27 (0, 0)) by rw [hw3]; exact set_far B6.out (by have := blk_lt HX.out.blk; have := G6.out; omega)); have hlk : (Instr.lookup 63 (.map (some x.bk)) (.string s) true).run Tryd.prog w3 = .ok (.tuple #[.agg (nums .u8 key).toArray, .bool true]) w3 := (by have h := look_keys X3.out.keys HG.out HO.out; rw [HGS.out] at h; exact h); have q3 := X3.out.c3; clear hw3))
    | ((with_reducible refine gate_dst (N := 8) rfl ?_); refine box_event ?hg (N := 8) ?hd (cs := (nums .u8 zeroD).toArray) (t := 27) ?hr ?_; (case hd => rfl); (case hg => rfl); (case hr => first | (go_simp; done) | (go_simp; rfl)); intro b8 hb8 w4 hbox hbl; have B8 := Aside0.mk hbox; have HB4 := Aside0.mk hbl; have HA4 := Aside0.mk (below_step HA3.out hbl); have X4 := Aside0.mk (X3.out.below hbl); have B54 := Aside0.mk (blk_below B53.out hbl); have B64 := Aside0.mk (blk_below B63.out hbl); have G8 := Aside0.mk (show w3.heap.size ≤ b8 by omega); have N8 := Aside0.mk (And.intro (show x.b < b8 by have := blk_lt X3.out.blk; omega) (And.intro (show b5 < b8 by have := blk_lt B53.out; omega) (show b6 < b8 by have := blk_lt B63.out; omega))); clear hb8 hbox hbl)
    | (refine put_row rfl 27 (.tmp 8) (.tmp 25) rfl b8 (nums .u8 key).toArray rfl rfl 27 _ B8.out HDK.out.1 (by rw [HDK.out.2.1]; rfl) HDK.out.2.2 ?_; have X5 := Aside0.mk (X4.out.keep (keep_row (KeepBut.refl _ b8 none) (nums .u8 key).toArray) (by have := N8.out; omega) (map_cells X4.out.keys B8.out) (map_cells X4.out.signed B8.out) (fun ad had hp => by have := reads_far X3.out.reads ad had hp; have := G8.out; omega)); have B85 := Aside0.mk (setRow_heap _ b8 _ (nums .u8 key).toArray _ _ B8.out); have B55 := Aside0.mk ((setRow_other _ b8 b5 (nums .u8 key).toArray (by have := N8.out; omega)).trans B54.out); have B65 := Aside0.mk ((setRow_other _ b8 b6 (nums .u8 key).toArray (by have := N8.out; omega)).trans B64.out); have HB5 := Aside0.mk (below_row HB4.out G8.out (nums .u8 key).toArray)))
  have HA5 := Aside0.mk (show Below w0.heap.size w0 (w4.setRow b8 (nums .u8 key).toArray) from below_row HA4.out (by have := G8.out; have := HA3.out.size; omega) (nums .u8 key).toArray)
  generalize w4.setRow b8 (nums .u8 key).toArray = w5 at X5 B85 B55 B65 HB5 HA5 ⊢
  clear B8 X4 B54 B64 HB4 HA4 q3 hlk hu63
  refine wp_region_noPanic ?_
  refine start_ (n := 5) (S := fun _ => True) (ds := []) #[false, false, false, false, false] (by kernel_rfl) rfl rfl trivial (fun hHeld => ?_)
  refine pure_ (i := 0) (N := some 30) (v := ?v1) (a' := ?a1) #[true, false, false, false, false] rfl rfl (by kernel_rfl) (fun _ _ _ h => h) (Or.inl ⟨by rfl, ?hy1⟩) ?ha1 ?hh1
  case hy1 =>
    intro w'
    go_simp
    with_reducible rfl
  case ha1 =>
    simp only [Act.put, List.setIfInBounds_toArray, List.set_cons_zero, List.set_cons_succ]
    rfl
  refine pure_ (i := 1) (N := some 31) (v := ?v2) (a' := ?a2) #[true, true, false, false, false] rfl rfl (by kernel_rfl) (fun _ _ _ h => h) (Or.inl ⟨by rfl, ?hy2⟩) ?ha2 ?hh2
  case hy2 =>
    intro w'
    go_simp
    with_reducible rfl
  case ha2 =>
    simp only [Act.put, List.setIfInBounds_toArray, List.set_cons_zero, List.set_cons_succ]
    rfl
  have X6 := Aside0.mk X5.out.drew
  have B86 := Aside0.mk (blk_drew B85.out)
  have B56 := Aside0.mk (blk_drew B55.out)
  have B66 := Aside0.mk (blk_drew B65.out)
  have HB6 := Aside0.mk (below_drew HB5.out)
  have HA6 := Aside0.mk (below_drew HA5.out)
  generalize w5.drew = w6 at X6 B86 B56 B66 HB6 HA6 hHeld ⊢
  clear X5 B85 B55 B65 HB5 HA5
  refine join_ 1 #[true, true, true, true, false] (fun b10 : Nat => [(32, .agg (nums .u8 m).toArray), (10, .pointer (some ⟨b10, 0, none⟩))]) (fun b10 w' => x.At w' w0.heap.size 1 ∧ w'.heap[b5]? = some (.cells (nums .u8 d).toArray 27 (0, 0)) ∧ w'.heap[b6]? = some (.cells (nums .u8 zeroD).toArray 27 (0, 0)) ∧ w'.heap[b10]? = some (.cells (nums .u8 zeroD).toArray 27 (0, 0)) ∧ Below w3.heap.size w3 w' ∧ Below w0.heap.size w0 w' ∧ (w3.heap.size ≤ b10 ∧ x.b < b10 ∧ b5 < b10 ∧ b6 < b10)) ?hcont (fun hJ => ?hways)
  case hways =>
    refine two_ (i := 2) (j := 3) (Ni := some 32) (Nj := some 10) #[true, true, true, false, false] #[true, true, false, true, false] rfl rfl rfl rfl (by kernel_rfl) (by decide) (by decide) (fun K hK => ?way1) (fun K hK => ?way2)
    case way1 =>
      refine goes_ Tryd.func8 (by kernel_rfl) rfl #[.slice (some ⟨b8, 0, none⟩) 32 32, .slice (some ⟨b5, 0, none⟩) 32 32] (by rfl) rfl rfl (by simp only [List.map_toArray, List.map_cons, List.map_nil]; rfl) ?_
      refine (digest_callsN _ b8 b5 32 32 _ _ key d m HMM.out (HF.out.up HA6.out) (HL.out.up HA6.out) HK.out HD.out B86.out B56.out (Nat.le_refl _) (Nat.le_refl _)).mono ?_
      rintro e w7 ⟨rfl, l7⟩
      refine ⟨_, rfl, hK.out _ _ trivial (fun _ => ?_)⟩
      clear hK K
      refine one_ (i := 3) (N := some 10) #[true, true, true, true, false] rfl rfl (by kernel_rfl) (by decide) (fun K hK => ?_)
      refine box_step (by rfl) (N := 10) rfl (cs := (nums .u8 zeroD).toArray) (t := 27) (by first | (go_simp; done) | (go_simp; rfl)) ?_
      intro b10 hb10 w8 hbox hbl
      refine hK.out _ _ trivial (fun _ => ?_)
      clear hK K
      have h := hJ b10 w8 ⟨(X6.out.below l7).below hbl, blk_below (blk_below B56.out l7) hbl, blk_below (blk_below B66.out l7) hbl, hbox, below_step (below_step HB6.out l7) hbl, below_step (below_step HA6.out l7) hbl, by have := (below_step HB6.out l7).size; have := blk_lt X3.out.blk; have := blk_lt B53.out; have := blk_lt B63.out; omega⟩
      exact h
    case way2 =>
      refine box_step (by rfl) (N := 10) rfl (cs := (nums .u8 zeroD).toArray) (t := 27) (by first | (go_simp; done) | (go_simp; rfl)) ?_
      intro b10 hb10 w7 hbox hbl
      refine hK.out _ _ trivial (fun _ => ?_)
      clear hK K
      refine one_ (i := 2) (N := some 32) #[true, true, true, true, false] rfl rfl (by kernel_rfl) (by decide) (fun K hK => ?_)
      refine goes_ Tryd.func8 (by kernel_rfl) rfl #[.slice (some ⟨b8, 0, none⟩) 32 32, .slice (some ⟨b5, 0, none⟩) 32 32] (by rfl) rfl rfl (by simp only [List.map_toArray, List.map_cons, List.map_nil]; rfl) ?_
      refine (digest_callsN _ b8 b5 32 32 _ _ key d m HMM.out (HF.out.up (below_step HA6.out hbl)) (HL.out.up (below_step HA6.out hbl)) HK.out HD.out (blk_below B86.out hbl) (blk_below B56.out hbl) (Nat.le_refl _) (Nat.le_refl _)).mono ?_
      rintro e w8 ⟨rfl, l8⟩
      refine ⟨_, rfl, hK.out _ _ trivial (fun _ => ?_)⟩
      clear hK K
      have h := hJ b10 w8 ⟨(X6.out.below hbl).below l8, blk_below (blk_below B56.out hbl) l8, blk_below (blk_below B66.out hbl) l8, blk_below hbox l8, below_step (below_step HB6.out hbl) l8, below_step (below_step HA6.out hbl) l8, by have := HB6.out.size; have := blk_lt X3.out.blk; have := blk_lt B53.out; have := blk_lt B63.out; omega⟩
      simp only [putAll, Act.put, List.setIfInBounds_toArray, List.set_cons_zero, List.set_cons_succ] at h ⊢
      exact h
  case hcont =>
    intro b10 w7 hF7
    obtain ⟨x7, h57, h67, h107, hb7, ha7, n10⟩ := hF7
    have X7 := Aside0.mk x7
    have B57 := Aside0.mk h57
    have B67 := Aside0.mk h67
    have B107 := Aside0.mk h107
    have HB7 := Aside0.mk hb7
    have HA7 := Aside0.mk ha7
    have N10 := Aside0.mk n10
    clear x7 h57 h67 h107 hb7 ha7 n10 X6 B86 B56 B66 HB6 HA6
    simp only [putAll, Act.put, List.setIfInBounds_toArray, List.set_cons_zero, List.set_cons_succ]
    refine one_ (i := 4) (N := none) #[true, true, true, true, true] rfl rfl (by kernel_rfl) (by decide) (fun K hK => ?_)
    rw [if_pos (by rfl)]
    refine wp_store_row 27 (.tmp 10) (.tmp 32) rfl b10 (nums .u8 m).toArray rfl rfl 27 _ B107.out HDM.out.1 (by rw [HDM.out.2.1]; rfl) HDM.out.2.2 ?_
    have X8 := Aside0.mk (X7.out.keep (keep_row (KeepBut.refl _ b10 none) (nums .u8 m).toArray) (by have := N10.out; omega) (map_cells X7.out.keys B107.out) (map_cells X7.out.signed B107.out) (fun ad had hp => by have := reads_far X3.out.reads ad had hp; have := N10.out; omega))
    have B108 := Aside0.mk (setRow_heap _ b10 _ (nums .u8 m).toArray _ _ B107.out)
    have B58 := Aside0.mk ((setRow_other _ b10 b5 (nums .u8 m).toArray (by have := N10.out; omega)).trans B57.out)
    have B68 := Aside0.mk ((setRow_other _ b10 b6 (nums .u8 m).toArray (by have := N10.out; omega)).trans B67.out)
    have HB8 := Aside0.mk (below_row HB7.out N10.out.1 (nums .u8 m).toArray)
    have HA8 := Aside0.mk (show Below w0.heap.size w0 (w7.setRow b10 (nums .u8 m).toArray) from below_row HA7.out (by have := HA3.out.size; have := N10.out; omega) (nums .u8 m).toArray)
    generalize w7.setRow b10 (nums .u8 m).toArray = w8 at X8 B108 B58 B68 HB8 HA8 ⊢
    refine hK.out _ _ trivial (fun _ => ?_)
    clear hK K X7 B57 B67 B107 HB7 HA7 hHeld
    refine norm_ (a' := ?an) ?hn ?hm
    case hn =>
      show Act.put _ none _ = _
      simp only [Act.put]
      rfl
    refine done_ (by kernel_rfl) ?_
    refine NoPanic.normal ?_
    have HI27 := Aside0.mk (show (Tryd.prog.info? 27).map (·.size) = some (nums IntKind.u8 d).length by rw [nums_length, HD.out.1]; kernel_rfl)
    have HIM := Aside0.mk (show (Tryd.prog.info? 27).map (·.size) = some (nums IntKind.u8 m).length by rw [nums_length, HM.out.1]; kernel_rfl)
    go_wp2_with (fail)
    refine wp_region_noPanic ?_
    refine start_ (n := 9) (S := fun w' => x.At w' w0.heap.size 1 ∧ w'.heap[b5]? = some (.cells (nums .u8 d).toArray 27 (0, 0)) ∧ w'.heap[b10]? = some (.cells (nums .u8 m).toArray 27 (0, 0)) ∧ w'.heap[b6]? = some (.cells (nums .u8 zeroD).toArray 27 (0, 0)) ∧ Below w3.heap.size w3 w' ∧ Below w0.heap.size w0 w') (ds := [8]) #[false, false, false, false, false, false, false, false, false] (by kernel_rfl) rfl rfl ⟨X8.out.drew, blk_drew B58.out, blk_drew B108.out, blk_drew B68.out, below_drew HB8.out, below_drew HA8.out⟩ (fun hHeld => ?_)
    refine pure_ (i := 0) (N := some 33) (v := ?v3) (a' := ?a3) #[true, false, false, false, false, false, false, false, false] rfl rfl (by kernel_rfl) (fun _ _ _ h => h) (Or.inl ⟨by rfl, ?hy3⟩) ?ha3 ?hh3
    case hy3 =>
      intro w'
      go_simp
      with_reducible rfl
    case ha3 =>
      simp only [Act.put, List.setIfInBounds_toArray, List.set_cons_zero, List.set_cons_succ]
      rfl
    refine pure_ (i := 1) (N := some 34) (v := ?v4) (a' := ?a4) #[true, true, false, false, false, false, false, false, false] rfl rfl (by kernel_rfl) (fun _ _ _ h => h) (Or.inl ⟨by rfl, ?hy4⟩) ?ha4 ?hh4
    case hy4 =>
      intro w'
      go_simp
      with_reducible rfl
    case ha4 =>
      simp only [Act.put, List.setIfInBounds_toArray, List.set_cons_zero, List.set_cons_succ]
      rfl
    refine pure_ (i := 2) (N := some 35) (v := ?v5) (a' := ?a5) #[true, true, true, false, false, false, false, false, false] rfl rfl (by kernel_rfl) (fun _ _ _ h => h) (Or.inl ⟨by rfl, ?hy5⟩) ?ha5 ?hh5
    case hy5 =>
      intro w'
      go_simp
      with_reducible rfl
    case ha5 =>
      simp only [Act.put, List.setIfInBounds_toArray, List.set_cons_zero, List.set_cons_succ]
      rfl
    refine take_ (i := 3) (N := some 36) (v := ?v6) (a' := ?a6) #[true, true, true, true, false, false, false, false, false] rfl rfl (by kernel_rfl) (fun _ _ _ h => h) (Or.inl ⟨by rfl, ?hy6⟩) hHeld ?ha6 ?hh6
    case hy6 =>
      intro w' s0
      have q := s0.1.c4
      go_simp
      with_reducible rfl
    case ha6 =>
      simp only [Act.put, List.setIfInBounds_toArray, List.set_cons_zero, List.set_cons_succ]
      rfl
    refine pure_ (i := 4) (N := some 37) (v := ?v7) (a' := ?a7) #[true, true, true, true, true, false, false, false, false] rfl rfl (by kernel_rfl) (fun _ _ _ h => h) (Or.inl ⟨by rfl, ?hy7⟩) ?ha7 ?hh7
    case hy7 =>
      intro w'
      go_simp
      with_reducible rfl
    case ha7 =>
      simp only [Act.put, List.setIfInBounds_toArray, List.set_cons_zero, List.set_cons_succ]
      rfl
    refine take_ (i := 5) (N := some 38) (v := .agg (List.toArray (nums .u8 d))) (a' := ?a8) #[true, true, true, true, true, true, false, false, false] rfl rfl (by kernel_rfl) (fun _ _ _ h => h) (yieldsIf_load_mid (by rfl) 27 (.tmp 5) rfl b5 0 rfl (nums .u8 d) _ (fun w' s0 => (fun j v hj => by rw [Nat.zero_add]; exact arr_cell s0.2.1 j hj)) Tryd.underlying27 rfl HI27.out) hHeld ?ha8 ?hh8
    case ha8 =>
      simp only [Act.put, List.setIfInBounds_toArray, List.set_cons_zero, List.set_cons_succ]
      rfl
    refine pure_ (i := 6) (N := some 39) (v := (pairV s d)) (a' := ?a9) #[true, true, true, true, true, true, true, false, false] rfl rfl (by kernel_rfl) (fun _ _ _ h => h) (build_yields HD.out.1 (by rfl) (.tmp 37) (.tmp 38) rfl rfl rfl) ?ha9 ?hh9
    case ha9 =>
      simp only [Act.put, List.setIfInBounds_toArray, List.set_cons_zero, List.set_cons_succ]
      rfl
    refine take_ (i := 7) (N := some 40) (v := .agg (List.toArray (nums .u8 m))) (a' := ?a10) #[true, true, true, true, true, true, true, true, false] rfl rfl (by kernel_rfl) (fun _ _ _ h => h) (yieldsIf_load_mid (by rfl) 27 (.tmp 10) rfl b10 0 rfl (nums .u8 m) _ (fun w' s0 => (fun j v hj => by rw [Nat.zero_add]; exact arr_cell s0.2.2.1 j hj)) Tryd.underlying27 rfl HIM.out) hHeld ?ha10 ?hh10
    case ha10 =>
      simp only [Act.put, List.setIfInBounds_toArray, List.set_cons_zero, List.set_cons_succ]
      rfl
    obtain ⟨w9, hrun, own9, turn9⟩ := hHeld.1.signed.store lawP Tryd.underlying64 HN.out (keyP HO.out HD.out) (show RD (digV m) = some (.held (digV m), []) from rfl)
    refine last_ (i := 8) (N := none) #[true, true, true, true, true, true, true, true, true] rfl rfl (by kernel_rfl) (by decide) (fun K hK => ?_)
    refine skip_ (w1 := w9) (by rfl) rfl (update_runs (.tmp 36) (.tmp 39) (.tmp 40) rfl rfl rfl rfl hrun) ?_
    have TR := Aside0.mk turn9
    have OW := Aside0.mk own9
    have NBS := Aside0.mk hHeld.1.ne_s
    have NS10 := Aside0.mk (map_cells hHeld.1.signed hHeld.2.2.1)
    have NS6 := Aside0.mk (map_cells hHeld.1.signed hHeld.2.2.2.1)
    have HXB := Aside0.mk hHeld.1.base
    have X9 := Aside0.mk (show (x.signedWith s d m).At w9 w0.heap.size 1 from ⟨turned_blk turn9 hHeld.1.blk NBS.out.symm, hHeld.1.reads.keep (turned_keep turn9) (reads_map_far hHeld.1.reads hHeld.1.signed), hHeld.1.far, hHeld.1.cap, map_below hHeld.1.keys (turn9.grown.block _ hHeld.1.keys.lt (fun e => hHeld.1.ne (Option.some.inj e))), own9, hHeld.1.base, hHeld.1.ne⟩)
    have B109 := Aside0.mk (turned_blk turn9 hHeld.2.2.1 NS10.out.symm)
    have B69 := Aside0.mk (turned_blk turn9 hHeld.2.2.2.1 NS6.out.symm)
    have HSZ9 := Aside0.mk (show w3.heap.size ≤ w9.heap.size from Nat.le_trans hHeld.2.2.2.2.1.size turn9.grown.size)
    have H49 := Aside0.mk (show ∀ k, k < w.heap.size → k ≠ x.bs → w9.heap[k]? = w3.heap[k]? from fun k hk hn => by have h3 : k < w3.heap.size := Nat.lt_of_lt_of_le hk (by have h2 := HB2.out.size; rw [HW3.out]; simpa using h2); exact (turn9.grown.block k (Nat.lt_of_lt_of_le h3 hHeld.2.2.2.2.1.size) (fun e => hn (Option.some.inj e))).trans (hHeld.2.2.2.2.1.block k h3))
    have HA9 := Aside0.mk (turned_below turn9 hHeld.2.2.2.2.2 HXB.out.2.2)
    refine hK.out _ _ ?_
    clear hK K hHeld hrun own9 turn9
    refine done_ (by kernel_rfl) ?_
    refine NoPanic.normal ?_
    go_wp2_with (first
      | (refine wpList_load_row rfl 27 (.tmp 10) rfl b10 rfl 27 (nums .u8 m).toArray (0, 0) _ B109.out Tryd.underlying27 rfl HDM.out.1 ?_)
      | (refine put_row rfl 27 (.tmp 6) (.tmp 41) rfl b6 (nums .u8 m).toArray rfl rfl 27 _ B69.out HDM.out.1 (by rw [HDM.out.2.1]; rfl) HDM.out.2.2 ?_))
    have X10 := X9.out.keep (keep_row (KeepBut.refl _ b6 none) (nums .u8 m).toArray) (show x.b ≠ b6 by have := blk_lt HX.out.blk; have := G6.out; omega) (map_cells X9.out.keys B69.out) (map_cells X9.out.signed B69.out) (fun ad had hp => by have := reads_far HX.out.reads ad had hp; have := G6.out; omega)
    have B6A := setRow_heap w9 b6 _ (nums .u8 m).toArray _ _ B69.out
    refine leaves_cons (f := 26) (args := #[.pointer (some ⟨x.b, 0, none⟩)]) (by simp) (by simp [go_sem]) ?_
    refine (unlock_deferred muLib ⟨x.b, 0, none⟩ .returning _ X10.c0 (blk_frozen X10.blk 0)).mono ?_
    rintro e u' w'' ⟨rfl, rfl, rfl⟩
    refine ⟨_, results_ct rfl _ _ b6 27 (nums .u8 m).toArray (0, 0) _ rfl (set_far B6A (by have := blk_lt HX.out.blk; have := G6.out; omega)) Tryd.underlying27 rfl HDM.out.1, rfl, ?_, X10.lock 0, ?_⟩
    · refine lock_keep (u := .int .i32 1) HB2.out ?_ ?_ HX.out.blk (X10.lock 0).blk
      · rw [← HW3.out]; simpa using HSZ9.out
      · intro k hk hn
        rw [← HW3.out]
        exact (setRow_other w9 b6 k _ (by have := G6.out; omega)).trans (H49.out k hk hn)
    · exact (below_row HA9.out (by have := HA2.out.size; have := HB.out.size; have := G6.out; omega) _).setCell HXB.out.1 _
end Go.Proofs.YtoigoiefnapokaaDoor.T
