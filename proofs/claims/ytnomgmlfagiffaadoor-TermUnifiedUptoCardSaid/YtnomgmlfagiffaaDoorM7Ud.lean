/- GMatch: texts of this claim, laid together. -/
import Derived.Test.YtnomgmlfagiffaaDoorM6Ud
import Derived.Deep.RegionHeld3
import Derived.Deep.DrawnRows
/- The walk of term.Match. -/
set_option linter.unusedVariables false
set_option linter.unusedSimpArgs false
namespace Go.Proofs.YtnomgmlfagiffaaDoor.T
open Go.RowKit Go.Maps Go.Proofs.YtnomgmlfagiffaaDoorW.PrintWords Go.Proofs.YtnomgmlfagiffaaDoorW.PrintLast
attribute [local go_sem high] eqA23
theorem var_f (t : Tm) : term_Variable.f t.f0 t.f1 t.f2 = some (isVar t) := by
  unfold term_Variable.f isVar
  by_cases h : t.f0 = 3
  · by_cases h2 : 0 ≤ t.f1 <;> simp [h, h2]
  · simp [h]
theorem var_calls (t : Tm) (w : World) : Calls Tryd.prog 27 #[.agg #[.int .i64 t.f0, .int .i64 t.f1, .string t.f2]] w fun e w' => e = .returned (.bool (isVar t)) ∧ Below w.heap.size w w' :=
  term_Variable.calls _ _ _ _ w (var_f t)
theorem places_calls (t : Tm) (nm : ByteArray) (A : Option Addr) (c : Nat) (l : List Tm) (w : World) (hr : Kd.C k23 w A l.length l) (hc : l.length ≤ c) (hl : l.length < smallN) :
    Calls Tryd.prog 50 #[.agg #[.int .i64 t.f0, .int .i64 t.f1, .string t.f2, .string nm, .slice A l.length c]] w fun e w' => ∃ v0_ : Value, e = .returned (v0_) ∧ Kd.R k23 23 w' w.heap.size (fun _ => True) v0_ (t :: l) ∧ Below w.heap.size w w' :=
  term_places.calls t.f0 t.f1 t.f2 nm A c l (t :: l) w hr hc (by unfold term_places.f; simp [smallN] at hl ⊢; omega)
theorem zeroT (w : World) : (zeroValue 23).run Tryd.prog w = .ok (encT ⟨0, 0, ⟨#[]⟩⟩) w := by kernel_rfl
theorem inI_wf {x : Int} (h : inI x = true) : (Lit.int .i64 x).wf = true := by
  simp [inI] at h
  simp [Lit.wf, IntKind.min, IntKind.max, IntKind.bits, IntKind.signed]
  omega
section
variable {ops : Array Oper} {rest : List Oper} {o : Oper} {a : Act} {Q : Exit → Act → World → Prop}
/-- 't, ok := m[v]'. -/
theorem look_event (w : World) (hg : o.guard = none) (mo x : Operand) (hop : o.op = Op.lookup 70 mo x true) (b n : Nat) (m : List Bd) (v : Int) (t : Tm) (ob : Bool)
    (hm : a.eval mo = .map (some b)) (hown : w.ownsMap Tryd.prog 3 RT b n (mapD m)) (hx : a.eval x = .int .i64 v) (hv : inI v = true) (ht : (getM m v).getD ⟨0, 0, ⟨#[]⟩⟩ = t) (hob : (getM m v).isSome = ob)
    (hK : wpList Tryd.prog ops Q rest (a.put o.dst (.tuple #[.agg #[.int .i64 t.f0, .int .i64 t.f1, .string t.f2], .bool ob])) w) :
    wpList Tryd.prog ops Q (o :: rest) a w := by
  refine wpList_lookup_own_ok w hg mo x 70 hop 3 23 lawI Tryd.underlying70 RT (zeroT w) _ _ (RT_enc _) b n _ hm hown _ _ hx (keyOf_int_mk Tryd.underlying3 (inI_wf hv)) (fun v' ps hv' => ?_)
  rw [has_mapD, hob]
  rw [atKey_mapD] at hv'
  obtain ⟨t', rfl, e⟩ := RT_inv hv'
  have : t' = t := by
    injection e with e _
    cases hgm : getM m v with
    | none => rw [hgm] at e ht; injection e with e; rw [← ht, ← e]; rfl
    | some t2 => rw [hgm] at e ht; injection e with e; rw [← ht, ← e]; rfl
  rw [this]
  exact hK
/-- 'm[v] = t'. -/
theorem upd_event (w : World) (hg : o.guard = none) (mo x y : Operand) (hop : o.op = Op.mapUpdate 70 mo x y) (b n : Nat) (m : List Bd) (v : Int) (t : Tm)
    (hm : a.eval mo = .map (some b)) (hown : w.ownsMap Tryd.prog 3 RT b n (mapD m)) (hr : Rising m) (hn : n < maxLen) (hx : a.eval x = .int .i64 v) (hy : a.eval y = .agg #[.int .i64 t.f0, .int .i64 t.f1, .string t.f2]) (hv : inI v = true)
    (hK : ∀ w', w'.ownsMap Tryd.prog 3 RT b (n + 1) (mapD (putM v t m)) → w.grownBy w' (some b) → wpList Tryd.prog ops Q rest (a.put o.dst undef) w') :
    wpList Tryd.prog ops Q (o :: rest) a w := by
  refine wpList_mapUpdate_own w hg mo x y 70 hop 3 23 lawI Tryd.underlying70 RT b n _ hm hown hn _ _ _ hx hy (keyOf_int_mk Tryd.underlying3 (inI_wf hv)) (.held t) [] (RT_enc t) (fun w' h1 h2 => hK w' (by rw [put_mapD hr] at h1; exact h1) h2)
end
theorem startM_snoc (l : List Bd) (b : Bd) : startM (l ++ [b]) = if (getM (startM l) b.f0).isSome then startM l else putM b.f0 b.f1 (startM l) := by
  unfold startM; rw [List.foldl_append]; rfl
theorem startM_rising : ∀ (l : List Bd), Rising (startM l) := by
  intro l
  unfold startM
  suffices h : ∀ (m : List Bd), Rising m → Rising (l.foldl (fun m b => if (getM m b.f0).isSome then m else putM b.f0 b.f1 m) m) from h [] List.Pairwise.nil
  induction l with
  | nil => exact fun m h => h
  | cons b r ih =>
    intro m h
    refine ih _ ?_
    dsimp only
    split
    · exact h
    · exact putM_rising h
theorem take_rd44 (s : List Bd) (i : Nat) (h : i < s.length) : s.take (i + 1) = s.take i ++ [rd_T44 s (i : Int)] := by
  rw [List.take_add_one, List.getElem?_eq_getElem h]
  unfold rd_T44
  simp [List.getD, h]
theorem rd_mem44 (s : List Bd) (i : Nat) (h : i < s.length) : rd_T44 s (i : Int) ∈ s := by
  unfold rd_T44
  simp [List.getD, h]
theorem add_blk (a : Addr) (n : Nat) : (a.add n).block = a.block := by unfold Addr.add; split <;> rfl
theorem map_below {w w' : World} {b n : Nat} {D : DataW Tm} (h : w.ownsMap Tryd.prog 3 RT b n D) (hb : Below w.heap.size w w') : w'.ownsMap Tryd.prog 3 RT b n D := by
  have hlt := h.lt
  obtain ⟨es, clock, hb2, F, hs, hD⟩ := h
  exact ⟨es, clock, (hb.block b hlt).trans hb2, F, hs, hD⟩
theorem R_C {α : Type} {d : Kd α} {e : Nat} {w : World} {base : Nat} {ok : Nat → Prop} {A : Option Addr} {n c : Nat} {xs : List α} (h : d.R e w base ok (.slice A n c) xs) : d.C w A xs.length xs := by
  obtain ⟨A', c', he, _, hC⟩ := Kd.R_reads h
  injection he with h1 _ _
  subst h1
  exact hC
theorem R_off {α : Type} {d : Kd α} {e : Nat} {w : World} {base : Nat} {v : Value} {xs : List α} (h : d.R e w base (fun _ => True) v xs) {g : Nat} (hg : g < base) : d.R e w base (fun k => k ≠ g) v xs :=
  Kd.R_mono (Kd.R_bound h) (fun k hk => by have := hk.2.1; omega)
theorem drop_rd23 (s : List Tm) (i : Nat) (h : i < s.length) : s.drop i = rd_T23 s (i : Int) :: s.drop (i + 1) := by
  rw [List.drop_eq_getElem_cons h]
  unfold rd_T23
  simp [List.getD, h]
theorem rd_mem23 (s : List Tm) (i : Nat) (h : i < s.length) : rd_T23 s (i : Int) ∈ s := by
  unfold rd_T23
  simp [List.getD, h]
theorem ownsMap_len {w : World} {b n : Nat} {m : List Bd} (h : w.ownsMap Tryd.prog 3 RT b n (mapD m)) : m.length ≤ n := by
  obtain ⟨es, clock, hb, F, hs, hD⟩ := h
  unfold mapD at hD
  injection hD with hD
  have := congrArg List.length hD
  rw [length_sorted] at this
  simp at this
  omega
theorem matchL_go {n0 n1 : ByteArray} {p q : List Tm} {s : List Bd} {x y : Tm} (hn : (n0.toList == n1.toList) = true) (hl : p.length = q.length) {vb : Bool} (hv : isVar x = vb) (hk : vb = true → (y.f0 == 0) = false) :
    matchL n0 p n1 q s x y = match stepM (x :: p) (y :: q) (startM s) with | some m => (m, true) | none => ([], false) := by
  have h1 : n0.toList = n1.toList := by simpa using hn
  unfold matchL
  refine if_neg ?_
  rintro (h | h | ⟨h, h2⟩)
  · exact h h1
  · exact h hl
  · have := hk (hv.symm.trans h)
    simp [h2] at this
theorem stepM_fix {t u : Tm} {p q : List Tm} {m : List Bd} (hv : isVar t = false) : stepM (t :: p) (u :: q) m = if eqT t u then stepM p q m else none := by
  simp [stepM, hv]
theorem stepM_some {t u was : Tm} {p q : List Tm} {m : List Bd} (hv : isVar t = true) (hg : getM m t.f1 = some was) : stepM (t :: p) (u :: q) m = if eqT was u then stepM p q (putM t.f1 u m) else none := by
  simp [stepM, hv, hg]
theorem stepM_new {t u : Tm} {p q : List Tm} {m : List Bd} (hv : isVar t = true) (hg : getM m t.f1 = none) : stepM (t :: p) (u :: q) m = stepM p q (putM t.f1 u m) := by
  simp [stepM, hv, hg]
set_option maxHeartbeats 4000000 in
set_option maxRecDepth 100000 in
theorem match_go (x y : Tm) (n0 n1 : ByteArray) (A0 : Option Addr) (c0 : Nat) (p : List Tm) (A1 : Option Addr) (c1 : Nat) (q : List Tm) (A2 : Option Addr) (c2 : Nat) (s : List Bd) (w : World)
    (hr0 : Kd.C k23 w A0 p.length p) (hc0 : p.length ≤ c0) (hr1 : Kd.C k23 w A1 q.length q) (hc1 : q.length ≤ c1) (hr2 : Kd.C k44 w A2 s.length s) (hc2 : s.length ≤ c2)
    (hx : okT x = true) (hy : okT y = true) (hp : p.all okT = true) (hq : q.all okT = true) (hs : s.all okB = true) (lp : p.length < smallN) (lq : q.length < smallN) (ls : s.length < smallN)
    (hn : (n0.toList == n1.toList) = true) (hl : p.length = q.length) (vb : Bool) (hv : isVar x = vb) (hk : vb = true → (y.f0 == 0) = false) :
    Calls Tryd.prog 14 #[.agg #[.int .i64 x.f0, .int .i64 x.f1, .string x.f2, .string n0, .slice A0 p.length c0], .agg #[.int .i64 y.f0, .int .i64 y.f1, .string y.f2, .string n1, .slice A1 q.length c1], .slice A2 s.length c2] w fun e w' => ∃ v0_ : Value, e = .returned (.tuple #[v0_, .bool (matchL n0 p n1 q s x y).2]) ∧ Kd.R k44 44 w' w.heap.size (fun _ => True) v0_ (matchL n0 p n1 q s x y).1 ∧ Below w.heap.size w w' := by
  rw [matchL_go hn hl hv hk]
  obtain ⟨res, hres⟩ : ∃ res, res = stepM (x :: p) (y :: q) (startM s) := ⟨_, rfl⟩
  rw [← hres]
  have HRES := Aside0.mk hres
  clear hres
  have hu26 := Tryd.underlying26
  have hu23 := Tryd.underlying23
  have hu44 := Tryd.underlying44
  have hmm := @run_makeMap Tryd.prog
  have hvc := fun W => var_calls x W
  rw [hv] at hvc
  have HX : Aside0 ((Kd.C k23 w A0 p.length p ∧ p.length ≤ c0) ∧ (Kd.C k23 w A1 q.length q ∧ q.length ≤ c1) ∧ (Kd.C k44 w A2 s.length s ∧ s.length ≤ c2)) := ⟨⟨hr0, hc0⟩, ⟨hr1, hc1⟩, hr2, hc2⟩
  have HOK : Aside0 (okT x = true ∧ okT y = true ∧ p.all okT = true ∧ q.all okT = true ∧ s.all okB = true ∧ p.length < smallN ∧ q.length < smallN ∧ s.length < smallN) := ⟨hx, hy, hp, hq, hs, lp, lq, ls⟩
  have HV := Aside0.mk hv
  have HL := Aside0.mk hl
  have hle : ((p.length : Int) == (q.length : Int)) = true := by simp [hl]
  have hln : ((p.length : Int) != (q.length : Int)) = false := by simp [hl]
  clear hr0 hc0 hr1 hc1 hr2 hc2 hx hy hp hq hs lp lq ls hv hl
  cases vb with
  | false =>
    /-GUARD-/
    go_enter Tryd.func14, Tryd.ntmps14
    go_wp2_with (go_at_call 27; refine (hvc _).mono ?_; rintro e w1 ⟨rfl, hb1⟩; have HB1 := Aside0.mk (below_step (below_alloc (below_alloc (Below.refl _ w) _) _) hb1); have BK3 := Aside0.mk (blk_below (blk_alloc (blk_new w _) _) hb1); have BK4 := Aside0.mk (blk_below (blk_new (w.alloc _) _) hb1); have HS1 := Aside0.mk hb1.size; have hcy : w1.cell? ⟨w.heap.size + 1, 0, none⟩ = some (.int .i64 y.f0) := (by have h1 := blk_cell BK4.out 0; rw [show (w.alloc (Obj.cells #[.int .i64 x.f0, .int .i64 x.f1, .string x.f2, .string n0, .slice A0 p.length c0] 26 (0, 0))).heap.size = w.heap.size + 1 by simp] at h1; exact h1); clear hb1)
    clear hcy
    have hs4 : ∀ o : Obj, (w.alloc o).heap.size = w.heap.size + 1 := fun o => by simp
    rw [hs4] at BK4
    have GW : Aside0 (w.heap.size + 2 ≤ w1.heap.size) := ⟨by have h := HS1.out; simpa using h⟩
    clear hs4 HS1
    go_loopw [46] (fun v46 wr => ∃ i : Nat, v46 = .int .i64 (i : Int) ∧ Aside0 (i ≤ s.length) ∧ Aside0 (wr.ownsMap Tryd.prog 3 RT w1.heap.size i (mapD (startM (s.take i)))) ∧ Aside0 (wr.heap[w.heap.size]? = some (.cells #[.int .i64 x.f0, .int .i64 x.f1, .string x.f2, .string n0, .slice A0 p.length c0] 26 (0, 0))) ∧ Aside0 (wr.heap[w.heap.size + 1]? = some (.cells #[.int .i64 y.f0, .int .i64 y.f1, .string y.f2, .string n1, .slice A1 q.length c1] 26 (0, 0))) ∧ Aside0 (Below w.heap.size w wr))
      (fun v46 _ => s.length - (intOf v46).toNat)
    case atStart => exact ⟨0, rfl, ⟨Nat.zero_le _⟩, ⟨World.ownsMap_made w1 _ _ _⟩, ⟨blk_alloc BK3.out _⟩, ⟨blk_alloc BK4.out _⟩, ⟨below_alloc HB1.out _⟩⟩
    case round =>
      obtain ⟨i, rfl, HI, HM, BK3', BK4', HB⟩ := hrel
      clear BK3 BK4 HB1
      by_cases hi : i < s.length
      · have hi' : decide ((i : Int) < (s.length : Int)) = true := by simpa using hi
        have p0 : 0 ≤ (i : Int) := by omega
        have q0 : (i : Int) < (s.length : Int) := by omega
        obtain ⟨ad, ead, hx0, hx1, hx2, hx3⟩ := at_T44 HX.out.2.2.1 (i : Int) p0 q0
        cases ead
        rw [Int.toNat_natCast] at hx0 hx1 hx2 hx3
        replace hx0 := (HB.out.cell (World.block_lt_of_cell? w _ hx0)).trans hx0
        replace hx1 := (HB.out.cell (World.block_lt_of_cell? w _ hx1)).trans hx1
        replace hx2 := (HB.out.cell (World.block_lt_of_cell? w _ hx2)).trans hx2
        replace hx3 := (HB.out.cell (World.block_lt_of_cell? w _ hx3)).trans hx3
        have hmem := rd_mem44 s i hi
        have htk := take_rd44 s i hi
        have hst := startM_snoc (s.take i) (rd_T44 s (i : Int))
        rw [← htk] at hst
        have hok := List.all_eq_true.1 HOK.out.2.2.2.2.1 _ hmem
        have hin : inI (rd_T44 s (i : Int)).f0 = true := by simp [okB] at hok; exact hok.1
        have HW : Aside0 (wrap64 ((i : Int) + 1) = ((i + 1 : Nat) : Int)) := ⟨by have h1 := HOK.out.2.2.2.2.2.2.2; simp [smallN] at h1; unfold wrap64; omega⟩
        have HST := Aside0.mk hst
        have HIN := Aside0.mk hin
        have HII := Aside0.mk hi
        clear hmem htk hst hok hin hi
        cases hgm : getM (startM (s.take i)) (rd_T44 s (i : Int)).f0 with
        | some t =>
          have HST2 : Aside0 (startM (s.take (i + 1)) = startM (s.take i)) := ⟨by rw [HST.out, hgm]; rfl⟩
          have HGM := Aside0.mk hgm
          clear hgm
          go_wp2_with (first
            | (at_lookup; refine look_event _ rfl _ _ rfl w1.heap.size i _ _ t true rfl (HM.out.alloc _) rfl HIN.out (by rw [HGM.out]; rfl) (by rw [HGM.out]; rfl) ?_)
            | go_in)
          go_roundw
          case rel => exact ⟨i + 1, by rw [HW.out], ⟨HII.out⟩, ⟨by rw [HST2.out]; exact ((HM.out.alloc _).alloc _).mono (Nat.le_succ i)⟩, ⟨blk_alloc (blk_alloc BK3'.out _) _⟩, ⟨blk_alloc (blk_alloc BK4'.out _) _⟩, ⟨below_alloc (below_alloc HB.out _) _⟩⟩
          case measure => have := HII.out; rw [HW.out]; simp only [intOf, Int.toNat_natCast]; omega
        | none =>
          have HST2 : Aside0 (startM (s.take (i + 1)) = putM (rd_T44 s (i : Int)).f0 (rd_T44 s (i : Int)).f1 (startM (s.take i))) := ⟨by rw [HST.out, hgm]; rfl⟩
          have HGM := Aside0.mk hgm
          clear hgm
          go_wp2_with (first
            | (at_lookup; refine look_event _ rfl _ _ rfl w1.heap.size i _ _ ⟨0, 0, ⟨#[]⟩⟩ false rfl (HM.out.alloc _) rfl HIN.out (by rw [HGM.out]; rfl) (by rw [HGM.out]; rfl) ?_)
            | (at_mapUpdate; refine upd_event _ rfl _ _ _ rfl w1.heap.size i _ _ (rd_T44 s (i : Int)).f1 rfl ((HM.out.alloc _).alloc _) (startM_rising _) (by have h1 := HOK.out.2.2.2.2.2.2.2; have h2 := HII.out; simp [smallN] at h1; simp [maxLen]; omega) rfl rfl HIN.out ?_; intro w2 hm2 hg2; have HM2 := Aside0.mk hm2; have HG2 := Aside0.mk hg2; clear hm2 hg2)
            | go_in)
          go_roundw
          case rel => exact ⟨i + 1, by rw [HW.out], ⟨HII.out⟩, ⟨by rw [HST2.out]; exact HM2.out⟩, ⟨blk_grown (blk_alloc (blk_alloc BK3'.out _) _) HG2.out (by have := GW.out; simp; omega)⟩, ⟨blk_grown (blk_alloc (blk_alloc BK4'.out _) _) HG2.out (by have := GW.out; simp; omega)⟩, ⟨(below_alloc (below_alloc HB.out _) _).grown HG2.out (below_alloc (below_alloc HB.out _) _).size (fun k hk => by cases hk; have := GW.out; omega)⟩⟩
          case measure => have := HII.out; rw [HW.out]; simp only [intOf, Int.toNat_natCast]; omega
      · have hi' : decide ((i : Int) < (s.length : Int)) = false := by simpa using hi
        obtain rfl : i = s.length := by have := HI.out; omega
        rw [List.take_length] at HM
        have hcell : ∀ g cs t, wr.heap[g]? = some (Obj.cells cs t (0, 0)) → ∀ j, wr.cell? ⟨g, j, none⟩ = cs[j]? := fun g cs t h j => blk_cell h j
        have hca := fun j => hcell _ _ _ BK4'.out j
        have ha0 : wr.cell? ⟨w.heap.size + 1, 0, none⟩ = some (.int .i64 y.f0) := hca 0
        have ha1 : wr.cell? ⟨w.heap.size + 1, 1, none⟩ = some (.int .i64 y.f1) := hca 1
        have ha2 : wr.cell? ⟨w.heap.size + 1, 2, none⟩ = some (.string y.f2) := hca 2
        have ha3 : wr.cell? ⟨w.heap.size + 1, 3, none⟩ = some (.string n1) := hca 3
        have ha4 : wr.cell? ⟨w.heap.size + 1, 4, none⟩ = some (.slice A1 q.length c1) := hca 4
        have hpl := fun W h => places_calls y n1 A1 c1 q W h HX.out.2.1.2 HOK.out.2.2.2.2.2.2.1
        clear hca hcell
        have hb3 := fun j => blk_cell BK3'.out j
        have hd0 : wr.cell? ⟨w.heap.size, 0, none⟩ = some (.int .i64 x.f0) := hb3 0
        have hd1 : wr.cell? ⟨w.heap.size, 1, none⟩ = some (.int .i64 x.f1) := hb3 1
        have hd2 : wr.cell? ⟨w.heap.size, 2, none⟩ = some (.string x.f2) := hb3 2
        have hd3 : wr.cell? ⟨w.heap.size, 3, none⟩ = some (.string n0) := hb3 3
        have hd4 : wr.cell? ⟨w.heap.size, 4, none⟩ = some (.slice A0 p.length c0) := hb3 4
        have hpl2 := fun W h => places_calls x n0 A0 c0 p W h HX.out.1.2 HOK.out.2.2.2.2.2.1
        have hwl : w.heap.size < wr.heap.size := by have := HM.out.lt; have := GW.out; omega
        clear hb3
        obtain ⟨N, hN⟩ : ∃ N, N = (x :: p).length := ⟨_, rfl⟩
        have hNy : N = (y :: q).length := by rw [hN]; simp [HL.out]
        have HNX := Aside0.mk hN
        have HNY := Aside0.mk hNy
        clear hN hNy
        go_wp2_with (first
          | (go_at_call 50; refine (hpl _ (Kd.C_below HX.out.2.1.1 HB.out)).mono ?_; rintro e w2 ⟨vy, rfl, hRy, hb2⟩; have HB2 := Aside0.mk (below_step HB.out hb2); have HM2 := Aside0.mk (map_below HM.out hb2); have HRY := Aside0.mk (Kd.R_lower (R_off hRy HM.out.lt) (Nat.le_of_lt hwl)); have hlt2 := hb2.size; rw [← hb2.cell (p := ⟨w.heap.size, 0, none⟩) hwl] at hd0; rw [← hb2.cell (p := ⟨w.heap.size, 1, none⟩) hwl] at hd1; rw [← hb2.cell (p := ⟨w.heap.size, 2, none⟩) hwl] at hd2; rw [← hb2.cell (p := ⟨w.heap.size, 3, none⟩) hwl] at hd3; rw [← hb2.cell (p := ⟨w.heap.size, 4, none⟩) hwl] at hd4; clear ha0 ha1 ha2 ha3 ha4 hRy hb2)
          | (go_at_call 50; refine (hpl2 _ (Kd.C_below HX.out.1.1 HB2.out)).mono ?_; rintro e w3 ⟨vx, rfl, hRx, hb3⟩; obtain ⟨ax, cx, evx⟩ := Kd.R_slice hRx; rw [← HNX.out] at evx; subst evx; have HB3 := Aside0.mk (below_step HB2.out hb3); have HM3 := Aside0.mk (map_below HM2.out hb3); have HRX := Aside0.mk (Kd.R_lower (R_off hRx HM2.out.lt) HB2.out.size); have HRY3 := Aside0.mk (Kd.R_below HRY.out hb3); clear hRx hb3 hd0 hd1 hd2 hd3 hd4 hpl hpl2))
        obtain ⟨ay, cy, evy⟩ := Kd.R_slice HRY3.out
        rw [← HNY.out] at evy
        subst evy
        clear hlt2 hwl HRY HM2 HB2 HM HB BK3' BK4'
        have HRS := Aside0.mk (startM_rising s)
        go_loopw [70] (fun v70 wr => ∃ (j n : Nat) (m : List Bd), v70 = .int .i64 (j : Int) ∧ Aside0 (j ≤ N) ∧ Aside0 (stepM ((x :: p).drop j) ((y :: q).drop j) m = res) ∧ Aside0 (n ≤ s.length + j) ∧ Aside0 (Rising m) ∧ Aside0 (wr.ownsMap Tryd.prog 3 RT w1.heap.size n (mapD m)) ∧ Aside0 (Kd.R k23 23 wr w.heap.size (fun k => k ≠ w1.heap.size) (.slice ax N cx) (x :: p)) ∧ Aside0 (Kd.R k23 23 wr w.heap.size (fun k => k ≠ w1.heap.size) (.slice ay N cy) (y :: q)) ∧ Aside0 (Below w.heap.size w wr))
          (fun v70 _ => N - (intOf v70).toNat)
        case atStart => exact ⟨0, s.length, startM s, rfl, ⟨Nat.zero_le _⟩, ⟨HRES.out.symm⟩, ⟨Nat.le_refl _⟩, HRS, HM3, HRX, HRY3, HB3⟩
        case round =>
          obtain ⟨j, n, m, rfl, HJ, HST, HN, HRM, HM, HX3, HY3, HB⟩ := hrel
          clear HRS HM3 HRX HRY3 HB3
          by_cases hj : j < N
          · have hj' : decide ((j : Int) < (N : Int)) = true := decide_eq_true (by omega)
            have hjx : j < (x :: p).length := by rw [← HNX.out]; exact hj
            have hjy : j < (y :: q).length := by rw [← HNY.out]; exact hj
            have p0 : 0 ≤ (j : Int) := by omega
            have q2 : (j : Int) < (N : Int) := by omega
            have q0 : (j : Int) < ((x :: p).length : Int) := by omega
            have q1 : (j : Int) < ((y :: q).length : Int) := by omega
            obtain ⟨ad, ead, hx0, hx1, hx2⟩ := at_T23 (R_C HX3.out) (j : Int) p0 q0
            obtain ⟨ae, eae, hy0, hy1, hy2⟩ := at_T23 (R_C HY3.out) (j : Int) p0 q1
            cases ead
            cases eae
            rw [Int.toNat_natCast] at hx0 hx1 hx2 hy0 hy1 hy2
            have hdx := drop_rd23 (x :: p) j hjx
            have hdy := drop_rd23 (y :: q) j hjy
            have hmem := rd_mem23 (x :: p) j hjx
            have hmey := rd_mem23 (y :: q) j hjy
            generalize rd_T23 (x :: p) (j : Int) = t at *
            generalize rd_T23 (y :: q) (j : Int) = u at *
            have hokt : okT t = true := by
              rcases List.mem_cons.1 hmem with rfl | h
              · exact HOK.out.1
              · exact List.all_eq_true.1 HOK.out.2.2.1 _ h
            have HIN : Aside0 (inI t.f1 = true) := ⟨by simp [okT] at hokt; exact hokt.2.1⟩
            have HST2 := HST.out
            rw [hdx, hdy] at HST2
            have HSU := Aside0.mk HST2
            have HJJ := Aside0.mk hj
            have hvt := fun W => var_calls t W
            have HW : Aside0 (wrap64 ((j : Int) + 1) = ((j + 1 : Nat) : Int)) := ⟨by have h1 := HOK.out.2.2.2.2.2.1; have h2 := HNX.out; simp [smallN] at h1; simp at h2; unfold wrap64; omega⟩
            clear hdx hdy hmem hmey hokt HST2 hj hjx hjy HST q0 q1
            cases hv : isVar t with
            | false =>
              rw [hv] at hvt
              have HVT := Aside0.mk hv
              clear hv
              cases he : eqT t u with
              | true =>
                have he1 : (t.f0 == u.f0 && (t.f1 == u.f1 && (t.f2.toList == u.f2.toList))) = true := he
                have he2 : (!(t.f0 == u.f0) || (!(t.f1 == u.f1) || !(t.f2.toList == u.f2.toList))) = false := by have h1 := congrArg Bool.not he1; simpa only [Bool.not_and, Bool.not_false, Bool.not_true] using h1
                have HE := Aside0.mk he
                clear he
                go_wp2_with (first | (go_at_call 27; refine (hvt _).mono ?_; rintro e w4 ⟨rfl, hb4⟩; have HB4 := Aside0.mk (below_step (below_alloc HB.out _) hb4); have BT := Aside0.mk (blk_below (blk_new wr _) hb4); have hbW := below_step (below_alloc (Below.refl _ wr) _) hb4; replace hy0 := (hbW.cell (World.block_lt_of_cell? wr _ hy0)).trans hy0; replace hy1 := (hbW.cell (World.block_lt_of_cell? wr _ hy1)).trans hy1; replace hy2 := (hbW.cell (World.block_lt_of_cell? wr _ hy2)).trans hy2; have HBW := Aside0.mk hbW; have ht0 : w4.cell? ⟨wr.heap.size, 0, none⟩ = some (.int .i64 t.f0) := blk_cell BT.out 0; have ht1 : w4.cell? ⟨wr.heap.size, 1, none⟩ = some (.int .i64 t.f1) := blk_cell BT.out 1; have ht2 : w4.cell? ⟨wr.heap.size, 2, none⟩ = some (.string t.f2) := blk_cell BT.out 2; clear hb4 hbW hx0 hx1 hx2))
                go_region_held3 (fun w' => w'.cell? ⟨wr.heap.size, 0, none⟩ = some (.int .i64 t.f0) ∧ w'.cell? ⟨wr.heap.size, 1, none⟩ = some (.int .i64 t.f1) ∧ w'.cell? ⟨wr.heap.size, 2, none⟩ = some (.string t.f2) ∧ w'.cell? (ae.add (j * 3)) = some (.int .i64 u.f0) ∧ w'.cell? ⟨(ae.add (j * 3)).block, (ae.add (j * 3)).off + 1, none⟩ = some (.int .i64 u.f1) ∧ w'.cell? ⟨(ae.add (j * 3)).block, (ae.add (j * 3)).off + 2, none⟩ = some (.string u.f2)) (go_keep) (fail)
                have HST' : Aside0 (stepM ((x :: p).drop (j + 1)) ((y :: q).drop (j + 1)) m = res) := ⟨by have h := HSU.out; rw [stepM_fix HVT.out, HE.out] at h; exact h⟩
                clear ht0 ht1 ht2 hy0 hy1 hy2 he1 he2
                go_wp2
                go_roundw
                case rel => exact ⟨j + 1, n, m, by rw [HW.out], HJJ, HST', ⟨Nat.le_succ_of_le HN.out⟩, HRM, ⟨(map_below HM.out HBW.out).drew⟩, ⟨Kd.R_drew (Kd.R_below HX3.out HBW.out)⟩, ⟨Kd.R_drew (Kd.R_below HY3.out HBW.out)⟩, ⟨HB4.out.drew⟩⟩
                case measure => have := HJJ.out; rw [HW.out]; simp only [intOf, Int.toNat_natCast]; omega
              | false =>
                have he1 : (t.f0 == u.f0 && (t.f1 == u.f1 && (t.f2.toList == u.f2.toList))) = false := he
                have he2 : (!(t.f0 == u.f0) || (!(t.f1 == u.f1) || !(t.f2.toList == u.f2.toList))) = true := by have h1 := congrArg Bool.not he1; simpa only [Bool.not_and, Bool.not_false, Bool.not_true] using h1
                have HE := Aside0.mk he
                clear he
                go_wp2_with (first | (go_at_call 27; refine (hvt _).mono ?_; rintro e w4 ⟨rfl, hb4⟩; have HB4 := Aside0.mk (below_step (below_alloc HB.out _) hb4); have BT := Aside0.mk (blk_below (blk_new wr _) hb4); have hbW := below_step (below_alloc (Below.refl _ wr) _) hb4; replace hy0 := (hbW.cell (World.block_lt_of_cell? wr _ hy0)).trans hy0; replace hy1 := (hbW.cell (World.block_lt_of_cell? wr _ hy1)).trans hy1; replace hy2 := (hbW.cell (World.block_lt_of_cell? wr _ hy2)).trans hy2; have HBW := Aside0.mk hbW; have ht0 : w4.cell? ⟨wr.heap.size, 0, none⟩ = some (.int .i64 t.f0) := blk_cell BT.out 0; have ht1 : w4.cell? ⟨wr.heap.size, 1, none⟩ = some (.int .i64 t.f1) := blk_cell BT.out 1; have ht2 : w4.cell? ⟨wr.heap.size, 2, none⟩ = some (.string t.f2) := blk_cell BT.out 2; clear hb4 hbW hx0 hx1 hx2))
                go_region_held3 (fun w' => w'.cell? ⟨wr.heap.size, 0, none⟩ = some (.int .i64 t.f0) ∧ w'.cell? ⟨wr.heap.size, 1, none⟩ = some (.int .i64 t.f1) ∧ w'.cell? ⟨wr.heap.size, 2, none⟩ = some (.string t.f2) ∧ w'.cell? (ae.add (j * 3)) = some (.int .i64 u.f0) ∧ w'.cell? ⟨(ae.add (j * 3)).block, (ae.add (j * 3)).off + 1, none⟩ = some (.int .i64 u.f1) ∧ w'.cell? ⟨(ae.add (j * 3)).block, (ae.add (j * 3)).off + 2, none⟩ = some (.string u.f2)) (go_keep) (fail)
                obtain rfl : res = none := by have h := HSU.out; rw [stepM_fix HVT.out, HE.out] at h; exact h.symm
                clear ht0 ht1 ht2 hy0 hy1 hy2 he1 he2
                go_wp2
                go_ret2
                exact ⟨_, rfl, Kd.R_nil _ _ _ _ _, HB4.out.drew⟩
            | true =>
              rw [hv] at hvt
              have HVT := Aside0.mk hv
              clear hv
              cases hgm : getM m t.f1 with
              | none =>
                have HGM := Aside0.mk hgm
                clear hgm
                go_wp2_with (first | (go_at_call 27; refine (hvt _).mono ?_; rintro e w4 ⟨rfl, hb4⟩; have HB4 := Aside0.mk (below_step (below_alloc HB.out _) hb4); have BT := Aside0.mk (blk_below (blk_new wr _) hb4); have hbW := below_step (below_alloc (Below.refl _ wr) _) hb4; replace hy0 := (hbW.cell (World.block_lt_of_cell? wr _ hy0)).trans hy0; replace hy1 := (hbW.cell (World.block_lt_of_cell? wr _ hy1)).trans hy1; replace hy2 := (hbW.cell (World.block_lt_of_cell? wr _ hy2)).trans hy2; have HBW := Aside0.mk hbW; have ht0 : w4.cell? ⟨wr.heap.size, 0, none⟩ = some (.int .i64 t.f0) := blk_cell BT.out 0; have ht1 : w4.cell? ⟨wr.heap.size, 1, none⟩ = some (.int .i64 t.f1) := blk_cell BT.out 1; have ht2 : w4.cell? ⟨wr.heap.size, 2, none⟩ = some (.string t.f2) := blk_cell BT.out 2; clear hb4 hbW hx0 hx1 hx2) | (at_lookup; refine look_event _ rfl _ _ rfl w1.heap.size n m _ ⟨0, 0, ⟨#[]⟩⟩ false rfl (map_below HM.out HBW.out) rfl HIN.out (by rw [HGM.out]; rfl) (by rw [HGM.out]; rfl) ?_) | go_in)
                have hbx := below_alloc (Below.refl w4.heap.size w4) (Obj.cells #[.int .i64 0, .int .i64 0, .string ⟨#[]⟩] 23 (0, 0))
                have hbn := blk_new w4 (Obj.cells #[.int .i64 0, .int .i64 0, .string ⟨#[]⟩] 23 (0, 0))
                generalize w4.alloc (Obj.cells #[.int .i64 0, .int .i64 0, .string ⟨#[]⟩] 23 (0, 0)) = w5 at hbx hbn ⊢
                have HB5 := Aside0.mk (below_step HB4.out hbx)
                have HBW5 := Aside0.mk (below_step HBW.out hbx)
                replace hy0 := (hbx.cell (World.block_lt_of_cell? w4 _ hy0)).trans hy0
                replace hy1 := (hbx.cell (World.block_lt_of_cell? w4 _ hy1)).trans hy1
                replace hy2 := (hbx.cell (World.block_lt_of_cell? w4 _ hy2)).trans hy2
                replace ht1 := (hbx.cell (World.block_lt_of_cell? w4 _ ht1)).trans ht1
                clear hbx hbn ht0 ht2
                refine start_ (n := 9) (S := fun w' => True) (ds := []) #[false, false, false, false, false, false, false, false, false] (by kernel_rfl) rfl rfl trivial (fun hHeld => ?_)
                refine pure_ (i := 0) (N := some 91) (v := ?_) (a' := ?_) #[true, false, false, false, false, false, false, false, false] rfl rfl (by kernel_rfl) (fun _ _ _ h => h) (Or.inl ⟨by rfl, ?_⟩) ?_ ?_
                rotate_left
                · intro w'
                  go_simp
                  with_reducible rfl
                rotate_left
                · simp only [Act.put, List.setIfInBounds_toArray, List.set_cons_zero, List.set_cons_succ, i64_w, i32_w]
                  rfl
                refine pure_ (i := 1) (N := some 92) (v := ?_) (a' := ?_) #[true, true, false, false, false, false, false, false, false] rfl rfl (by kernel_rfl) (fun _ _ _ h => h) (Or.inl ⟨by rfl, ?_⟩) ?_ ?_
                rotate_left
                · intro w'
                  go_simp
                  with_reducible rfl
                rotate_left
                · simp only [Act.put, List.setIfInBounds_toArray, List.set_cons_zero, List.set_cons_succ, i64_w, i32_w]
                  rfl
                refine pure_ (i := 2) (N := some 93) (v := undef) (a' := ?_) #[true, true, true, false, false, false, false, false, false] rfl rfl (by kernel_rfl) (fun _ _ _ h => h) (Or.inr ⟨by rfl, rfl⟩) ?_ ?_
                rotate_left
                · simp only [Act.put, List.setIfInBounds_toArray, List.set_cons_zero, List.set_cons_succ, i64_w, i32_w]
                  rfl
                refine pure_ (i := 3) (N := some 94) (v := undef) (a' := ?_) #[true, true, true, true, false, false, false, false, false] rfl rfl (by kernel_rfl) (fun _ _ _ h => h) (Or.inr ⟨by rfl, rfl⟩) ?_ ?_
                rotate_left
                · simp only [Act.put, List.setIfInBounds_toArray, List.set_cons_zero, List.set_cons_succ, i64_w, i32_w]
                  rfl
                refine pure_ (i := 4) (N := some 95) (v := undef) (a' := ?_) #[true, true, true, true, true, false, false, false, false] rfl rfl (by kernel_rfl) (fun _ _ _ h => h) (Or.inr ⟨by rfl, rfl⟩) ?_ ?_
                rotate_left
                · simp only [Act.put, List.setIfInBounds_toArray, List.set_cons_zero, List.set_cons_succ, i64_w, i32_w]
                  rfl
                refine pure_ (i := 5) (N := some 96) (v := undef) (a' := ?_) #[true, true, true, true, true, true, false, false, false] rfl rfl (by kernel_rfl) (fun _ _ _ h => h) (Or.inr ⟨by rfl, rfl⟩) ?_ ?_
                rotate_left
                · simp only [Act.put, List.setIfInBounds_toArray, List.set_cons_zero, List.set_cons_succ, i64_w, i32_w]
                  rfl
                refine pure_ (i := 6) (N := some 97) (v := undef) (a' := ?_) #[true, true, true, true, true, true, true, false, false] rfl rfl (by kernel_rfl) (fun _ _ _ h => h) (Or.inr ⟨by rfl, rfl⟩) ?_ ?_
                rotate_left
                · simp only [Act.put, List.setIfInBounds_toArray, List.set_cons_zero, List.set_cons_succ, i64_w, i32_w]
                  rfl
                refine pure_ (i := 7) (N := some 98) (v := undef) (a' := ?_) #[true, true, true, true, true, true, true, true, false] rfl rfl (by kernel_rfl) (fun _ _ _ h => h) (Or.inr ⟨by rfl, rfl⟩) ?_ ?_
                rotate_left
                · simp only [Act.put, List.setIfInBounds_toArray, List.set_cons_zero, List.set_cons_succ, i64_w, i32_w]
                  rfl
                refine pure_ (i := 8) (N := some 99) (v := ?_) (a' := ?_) #[true, true, true, true, true, true, true, true, true] rfl rfl (by kernel_rfl) (fun _ _ _ h => h) (Or.inl ⟨by rfl, ?_⟩) ?_ ?_
                rotate_left
                · intro w'
                  go_simp
                  with_reducible rfl
                rotate_left
                · simp only [Act.put, List.setIfInBounds_toArray, List.set_cons_zero, List.set_cons_succ, i64_w, i32_w]
                  rfl
                refine done_ (by kernel_rfl) ?_
                go_wp2
                have HM5 := Aside0.mk (map_below HM.out HBW5.out)
                obtain ⟨w6, hrun, hm6, hg6⟩ := World.ownsMap.update (w := w5.drew.drew) HM5.out lawI Tryd.underlying70 (by have h1 := HN.out; have h3 := HOK.out.2.2.2.2.2.1; have h4 := HOK.out.2.2.2.2.2.2.2; have h5 := HNX.out; have h6 := HJJ.out; simp [smallN] at h3 h4; simp at h5; simp [maxLen]; omega) (keyOf_int_mk Tryd.underlying3 (inI_wf HIN.out)) (RT_enc u)
                simp only [encT] at hrun
                have HM6 : Aside0 (w6.ownsMap Tryd.prog 3 RT w1.heap.size (n + 1) (mapD (putM t.f1 u m))) := ⟨put_mapD (t := u) (v := t.f1) HRM.out ▸ hm6⟩
                have HG6 := Aside0.mk hg6
                have hnt : some wr.heap.size ≠ some w1.heap.size := by have := HM.out.lt; simp; omega
                have hny : some ae.block ≠ some w1.heap.size := by have := HY3.out.1 ae.block rfl; simpa using this
                have hny2 : some (ae.add (j * 3)).block ≠ some w1.heap.size := by rw [add_blk]; exact hny
                have ht1' : w6.cell? ⟨wr.heap.size, 1, none⟩ = some (.int .i64 t.f1) := hg6.cell (a := ⟨wr.heap.size, 1, none⟩) ht1 hnt
                have hy0' : w6.cell? (ae.add (j * 3)) = some (.int .i64 u.f0) := hg6.cell (a := ae.add (j * 3)) hy0 hny2
                have hy1' : w6.cell? ⟨(ae.add (j * 3)).block, (ae.add (j * 3)).off + 1, none⟩ = some (.int .i64 u.f1) := hg6.cell (a := ⟨(ae.add (j * 3)).block, (ae.add (j * 3)).off + 1, none⟩) hy1 hny2
                have hy2' : w6.cell? ⟨(ae.add (j * 3)).block, (ae.add (j * 3)).off + 2, none⟩ = some (.string u.f2) := hg6.cell (a := ⟨(ae.add (j * 3)).block, (ae.add (j * 3)).off + 2, none⟩) hy2 hny2
                clear hm6 hg6 hnt hny hny2
                refine start_ (n := 8) (S := fun w' => w'.cell? ⟨wr.heap.size, 1, none⟩ = some (.int .i64 t.f1) ∧ w'.cell? (ae.add (j * 3)) = some (.int .i64 u.f0) ∧ w'.cell? ⟨(ae.add (j * 3)).block, (ae.add (j * 3)).off + 1, none⟩ = some (.int .i64 u.f1) ∧ w'.cell? ⟨(ae.add (j * 3)).block, (ae.add (j * 3)).off + 2, none⟩ = some (.string u.f2)) (ds := []) #[false, false, false, false, false, false, false, false] (by kernel_rfl) rfl rfl ⟨ht1, hy0, hy1, hy2⟩ (fun hHeld => ?_)
                refine pure_ (i := 0) (N := some 100) (v := ?_) (a' := ?_) #[true, false, false, false, false, false, false, false] rfl rfl (by kernel_rfl) (fun _ _ _ h => h) (Or.inl ⟨by rfl, ?_⟩) ?_ ?_
                rotate_left
                · intro w'
                  go_simp
                  with_reducible rfl
                rotate_left
                · simp only [Act.put, List.setIfInBounds_toArray, List.set_cons_zero, List.set_cons_succ, i64_w, i32_w]
                  rfl
                refine pure_ (i := 1) (N := some 101) (v := ?_) (a' := ?_) #[true, true, false, false, false, false, false, false] rfl rfl (by kernel_rfl) (fun _ _ _ h => h) (Or.inl ⟨by rfl, ?_⟩) ?_ ?_
                rotate_left
                · intro w'
                  go_simp
                  with_reducible rfl
                rotate_left
                · simp only [Act.put, List.setIfInBounds_toArray, List.set_cons_zero, List.set_cons_succ, i64_w, i32_w]
                  rfl
                refine pure_ (i := 3) (N := some 103) (v := ?_) (a' := ?_) #[true, true, false, true, false, false, false, false] rfl rfl (by kernel_rfl) (fun _ _ _ h => h) (Or.inl ⟨by rfl, ?_⟩) ?_ ?_
                rotate_left
                · intro w'
                  go_simp
                  with_reducible rfl
                rotate_left
                · simp only [Act.put, List.setIfInBounds_toArray, List.set_cons_zero, List.set_cons_succ, i64_w, i32_w]
                  rfl
                refine pure_ (i := 4) (N := some 104) (v := ?_) (a' := ?_) #[true, true, false, true, true, false, false, false] rfl rfl (by kernel_rfl) (fun _ _ _ h => h) (Or.inl ⟨by rfl, ?_⟩) ?_ ?_
                rotate_left
                · intro w'
                  go_simp
                  with_reducible rfl
                rotate_left
                · simp only [Act.put, List.setIfInBounds_toArray, List.set_cons_zero, List.set_cons_succ, i64_w, i32_w]
                  rfl
                refine pure_ (i := 5) (N := some 105) (v := ?_) (a' := ?_) #[true, true, false, true, true, true, false, false] rfl rfl (by kernel_rfl) (fun _ _ _ h => h) (Or.inl ⟨by rfl, ?_⟩) ?_ ?_
                rotate_left
                · intro w'
                  go_simp
                  with_reducible rfl
                rotate_left
                · simp only [Act.put, List.setIfInBounds_toArray, List.set_cons_zero, List.set_cons_succ, i64_w, i32_w]
                  rfl
                refine take_ (i := 2) (N := some 102) (v := ?_) (a' := ?_) #[true, true, true, true, true, true, false, false] rfl rfl (by kernel_rfl) (fun _ _ _ h => h) (Or.inl ⟨by rfl, ?_⟩) hHeld ?_ ?_
                rotate_left
                · rintro w' ⟨s0, s1, s2, s3⟩
                  go_simp
                  with_reducible rfl
                rotate_left
                · simp only [Act.put, List.setIfInBounds_toArray, List.set_cons_zero, List.set_cons_succ, i64_w, i32_w]
                  rfl
                refine take_ (i := 6) (N := some 106) (v := ?_) (a' := ?_) #[true, true, true, true, true, true, true, false] rfl rfl (by kernel_rfl) (fun _ _ _ h => h) (Or.inl ⟨by rfl, ?_⟩) hHeld ?_ ?_
                rotate_left
                · rintro w' ⟨s0, s1, s2, s3⟩
                  go_simp
                  with_reducible rfl
                rotate_left
                · simp only [Act.put, List.setIfInBounds_toArray, List.set_cons_zero, List.set_cons_succ, i64_w, i32_w]
                  rfl
                refine one_ (i := 7) (N := none) #[true, true, true, true, true, true, true, true] rfl rfl (by kernel_rfl) (by decide) (fun K hK => ?_)
                refine skip_ (w1 := ?_) (by rfl) rfl ?_ ?_
                rotate_left
                · go_simp
                  rfl
                refine hK.out _ _ ⟨ht1', hy0', hy1', hy2'⟩ (fun hHeld => ?_)
                clear hK K
                refine done_ (by kernel_rfl) ?_
                clear ht1 hy0 hy1 hy2 ht1' hy0' hy1' hy2' hrun
                have HST' : Aside0 (stepM ((x :: p).drop (j + 1)) ((y :: q).drop (j + 1)) (putM t.f1 u m) = res) := ⟨by have h := HSU.out; rw [stepM_new HVT.out HGM.out] at h; exact h⟩
                go_wp2
                go_roundw
                case rel => exact ⟨j + 1, n + 1, putM t.f1 u m, by rw [HW.out], HJJ, HST', ⟨by have := HN.out; omega⟩, ⟨putM_rising HRM.out⟩, HM6, ⟨Kd.R_grown (Kd.R_drew (Kd.R_drew (Kd.R_below HX3.out HBW5.out))) HG6.out (fun k hk => by simpa using hk)⟩, ⟨Kd.R_grown (Kd.R_drew (Kd.R_drew (Kd.R_below HY3.out HBW5.out))) HG6.out (fun k hk => by simpa using hk)⟩, ⟨(HB5.out.drew.drew).grown HG6.out (HB5.out.drew.drew).size (fun k hk => by cases hk; have := GW.out; omega)⟩⟩
                case measure => have := HJJ.out; rw [HW.out]; simp only [intOf, Int.toNat_natCast]; omega
              | some was =>
                have HGM := Aside0.mk hgm
                clear hgm
                cases he : eqT was u with
                | true =>
                  have he1 : (was.f0 == u.f0 && (was.f1 == u.f1 && (was.f2.toList == u.f2.toList))) = true := he
                  have he2 : (!(was.f0 == u.f0) || (!(was.f1 == u.f1) || !(was.f2.toList == u.f2.toList))) = false := by have h1 := congrArg Bool.not he1; simpa only [Bool.not_and, Bool.not_false, Bool.not_true] using h1
                  have HE := Aside0.mk he
                  clear he
                  go_wp2_with (first | (go_at_call 27; refine (hvt _).mono ?_; rintro e w4 ⟨rfl, hb4⟩; have HB4 := Aside0.mk (below_step (below_alloc HB.out _) hb4); have BT := Aside0.mk (blk_below (blk_new wr _) hb4); have hbW := below_step (below_alloc (Below.refl _ wr) _) hb4; replace hy0 := (hbW.cell (World.block_lt_of_cell? wr _ hy0)).trans hy0; replace hy1 := (hbW.cell (World.block_lt_of_cell? wr _ hy1)).trans hy1; replace hy2 := (hbW.cell (World.block_lt_of_cell? wr _ hy2)).trans hy2; have HBW := Aside0.mk hbW; have ht0 : w4.cell? ⟨wr.heap.size, 0, none⟩ = some (.int .i64 t.f0) := blk_cell BT.out 0; have ht1 : w4.cell? ⟨wr.heap.size, 1, none⟩ = some (.int .i64 t.f1) := blk_cell BT.out 1; have ht2 : w4.cell? ⟨wr.heap.size, 2, none⟩ = some (.string t.f2) := blk_cell BT.out 2; clear hb4 hbW hx0 hx1 hx2) | (at_lookup; refine look_event _ rfl _ _ rfl w1.heap.size n m _ was true rfl (map_below HM.out HBW.out) rfl HIN.out (by rw [HGM.out]; rfl) (by rw [HGM.out]; rfl) ?_) | go_in)
                  have hbx := below_alloc (Below.refl w4.heap.size w4) (Obj.cells #[.int .i64 was.f0, .int .i64 was.f1, .string was.f2] 23 (0, 0))
                  have hbn := blk_new w4 (Obj.cells #[.int .i64 was.f0, .int .i64 was.f1, .string was.f2] 23 (0, 0))
                  generalize w4.alloc (Obj.cells #[.int .i64 was.f0, .int .i64 was.f1, .string was.f2] 23 (0, 0)) = w5 at hbx hbn ⊢
                  have HB5 := Aside0.mk (below_step HB4.out hbx)
                  have HBW5 := Aside0.mk (below_step HBW.out hbx)
                  replace hy0 := (hbx.cell (World.block_lt_of_cell? w4 _ hy0)).trans hy0
                  replace hy1 := (hbx.cell (World.block_lt_of_cell? w4 _ hy1)).trans hy1
                  replace hy2 := (hbx.cell (World.block_lt_of_cell? w4 _ hy2)).trans hy2
                  replace ht1 := (hbx.cell (World.block_lt_of_cell? w4 _ ht1)).trans ht1
                  have hw0 : w5.cell? ⟨w4.heap.size, 0, none⟩ = some (.int .i64 was.f0) := blk_cell hbn 0
                  have hw1 : w5.cell? ⟨w4.heap.size, 1, none⟩ = some (.int .i64 was.f1) := blk_cell hbn 1
                  have hw2 : w5.cell? ⟨w4.heap.size, 2, none⟩ = some (.string was.f2) := blk_cell hbn 2
                  clear hbx hbn ht0 ht2
                  refine start_ (n := 9) (S := fun w' => w'.cell? ⟨w4.heap.size, 0, none⟩ = some (.int .i64 was.f0) ∧ w'.cell? ⟨w4.heap.size, 1, none⟩ = some (.int .i64 was.f1) ∧ w'.cell? ⟨w4.heap.size, 2, none⟩ = some (.string was.f2) ∧ w'.cell? (ae.add (j * 3)) = some (.int .i64 u.f0) ∧ w'.cell? ⟨(ae.add (j * 3)).block, (ae.add (j * 3)).off + 1, none⟩ = some (.int .i64 u.f1) ∧ w'.cell? ⟨(ae.add (j * 3)).block, (ae.add (j * 3)).off + 2, none⟩ = some (.string u.f2)) (ds := []) #[false, false, false, false, false, false, false, false, false] (by kernel_rfl) rfl rfl ⟨hw0, hw1, hw2, hy0, hy1, hy2⟩ (fun hHeld => ?_)
                  refine pure_ (i := 0) (N := some 91) (v := ?_) (a' := ?_) #[true, false, false, false, false, false, false, false, false] rfl rfl (by kernel_rfl) (fun _ _ _ h => h) (Or.inl ⟨by rfl, ?_⟩) ?_ ?_
                  rotate_left
                  · intro w'
                    go_simp
                    with_reducible rfl
                  rotate_left
                  · simp only [Act.put, List.setIfInBounds_toArray, List.set_cons_zero, List.set_cons_succ, i64_w, i32_w]
                    rfl
                  refine pure_ (i := 1) (N := some 92) (v := ?_) (a' := ?_) #[true, true, false, false, false, false, false, false, false] rfl rfl (by kernel_rfl) (fun _ _ _ h => h) (Or.inl ⟨by rfl, ?_⟩) ?_ ?_
                  rotate_left
                  · intro w'
                    go_simp
                    with_reducible rfl
                  rotate_left
                  · simp only [Act.put, List.setIfInBounds_toArray, List.set_cons_zero, List.set_cons_succ, i64_w, i32_w]
                    rfl
                  refine pure_ (i := 3) (N := some 94) (v := ?_) (a' := ?_) #[true, true, false, true, false, false, false, false, false] rfl rfl (by kernel_rfl) (fun _ _ _ h => h) (Or.inl ⟨by rfl, ?_⟩) ?_ ?_
                  rotate_left
                  · intro w'
                    go_simp
                    with_reducible rfl
                  rotate_left
                  · simp only [Act.put, List.setIfInBounds_toArray, List.set_cons_zero, List.set_cons_succ, i64_w, i32_w]
                    rfl
                  refine pure_ (i := 4) (N := some 95) (v := ?_) (a' := ?_) #[true, true, false, true, true, false, false, false, false] rfl rfl (by kernel_rfl) (fun _ _ _ h => h) (Or.inl ⟨by rfl, ?_⟩) ?_ ?_
                  rotate_left
                  · intro w'
                    go_simp
                    with_reducible rfl
                  rotate_left
                  · simp only [Act.put, List.setIfInBounds_toArray, List.set_cons_zero, List.set_cons_succ, i64_w, i32_w]
                    rfl
                  refine pure_ (i := 5) (N := some 96) (v := ?_) (a' := ?_) #[true, true, false, true, true, true, false, false, false] rfl rfl (by kernel_rfl) (fun _ _ _ h => h) (Or.inl ⟨by rfl, ?_⟩) ?_ ?_
                  rotate_left
                  · intro w'
                    go_simp
                    with_reducible rfl
                  rotate_left
                  · simp only [Act.put, List.setIfInBounds_toArray, List.set_cons_zero, List.set_cons_succ, i64_w, i32_w]
                    rfl
                  refine take_ (i := 2) (N := some 93) (v := ?_) (a' := ?_) #[true, true, true, true, true, true, false, false, false] rfl rfl (by kernel_rfl) (fun _ _ _ h => h) (Or.inl ⟨by rfl, ?_⟩) hHeld ?_ ?_
                  rotate_left
                  · rintro w' ⟨s0, s1, s2, s3, s4, s5⟩
                    go_simp
                    with_reducible rfl
                  rotate_left
                  · simp only [Act.put, List.setIfInBounds_toArray, List.set_cons_zero, List.set_cons_succ, i64_w, i32_w]
                    rfl
                  refine take_ (i := 6) (N := some 97) (v := ?_) (a' := ?_) #[true, true, true, true, true, true, true, false, false] rfl rfl (by kernel_rfl) (fun _ _ _ h => h) (Or.inl ⟨by rfl, ?_⟩) hHeld ?_ ?_
                  rotate_left
                  · rintro w' ⟨s0, s1, s2, s3, s4, s5⟩
                    go_simp
                    with_reducible rfl
                  rotate_left
                  · simp only [Act.put, List.setIfInBounds_toArray, List.set_cons_zero, List.set_cons_succ, i64_w, i32_w]
                    rfl
                  refine pure_ (i := 7) (N := some 98) (v := ?_) (a' := ?_) #[true, true, true, true, true, true, true, true, false] rfl rfl (by kernel_rfl) (fun _ _ _ h => h) (Or.inl ⟨by rfl, ?_⟩) ?_ ?_
                  rotate_left
                  · intro w'
                    go_simp
                    with_reducible rfl
                  rotate_left
                  · simp only [Act.put, List.setIfInBounds_toArray, List.set_cons_zero, List.set_cons_succ, i64_w, i32_w]
                    rfl
                  refine pure_ (i := 8) (N := some 99) (v := ?_) (a' := ?_) #[true, true, true, true, true, true, true, true, true] rfl rfl (by kernel_rfl) (fun _ _ _ h => h) (Or.inl ⟨by rfl, ?_⟩) ?_ ?_
                  rotate_left
                  · intro w'
                    go_simp
                    with_reducible rfl
                  rotate_left
                  · simp only [Act.put, List.setIfInBounds_toArray, List.set_cons_zero, List.set_cons_succ, i64_w, i32_w]
                    rfl
                  refine done_ (by kernel_rfl) ?_
                  clear hw0 hw1 hw2 he1 he2
                  go_wp2
                  have HM5 := Aside0.mk (map_below HM.out HBW5.out)
                  obtain ⟨w6, hrun, hm6, hg6⟩ := World.ownsMap.update (w := w5.drew.drew) HM5.out lawI Tryd.underlying70 (by have h1 := HN.out; have h3 := HOK.out.2.2.2.2.2.1; have h4 := HOK.out.2.2.2.2.2.2.2; have h5 := HNX.out; have h6 := HJJ.out; simp [smallN] at h3 h4; simp at h5; simp [maxLen]; omega) (keyOf_int_mk Tryd.underlying3 (inI_wf HIN.out)) (RT_enc u)
                  simp only [encT] at hrun
                  have HM6 : Aside0 (w6.ownsMap Tryd.prog 3 RT w1.heap.size (n + 1) (mapD (putM t.f1 u m))) := ⟨put_mapD (t := u) (v := t.f1) HRM.out ▸ hm6⟩
                  have HG6 := Aside0.mk hg6
                  have hnt : some wr.heap.size ≠ some w1.heap.size := by have := HM.out.lt; simp; omega
                  have hny : some ae.block ≠ some w1.heap.size := by have := HY3.out.1 ae.block rfl; simpa using this
                  have hny2 : some (ae.add (j * 3)).block ≠ some w1.heap.size := by rw [add_blk]; exact hny
                  have ht1' : w6.cell? ⟨wr.heap.size, 1, none⟩ = some (.int .i64 t.f1) := hg6.cell (a := ⟨wr.heap.size, 1, none⟩) ht1 hnt
                  have hy0' : w6.cell? (ae.add (j * 3)) = some (.int .i64 u.f0) := hg6.cell (a := ae.add (j * 3)) hy0 hny2
                  have hy1' : w6.cell? ⟨(ae.add (j * 3)).block, (ae.add (j * 3)).off + 1, none⟩ = some (.int .i64 u.f1) := hg6.cell (a := ⟨(ae.add (j * 3)).block, (ae.add (j * 3)).off + 1, none⟩) hy1 hny2
                  have hy2' : w6.cell? ⟨(ae.add (j * 3)).block, (ae.add (j * 3)).off + 2, none⟩ = some (.string u.f2) := hg6.cell (a := ⟨(ae.add (j * 3)).block, (ae.add (j * 3)).off + 2, none⟩) hy2 hny2
                  clear hm6 hg6 hnt hny hny2
                  refine start_ (n := 8) (S := fun w' => w'.cell? ⟨wr.heap.size, 1, none⟩ = some (.int .i64 t.f1) ∧ w'.cell? (ae.add (j * 3)) = some (.int .i64 u.f0) ∧ w'.cell? ⟨(ae.add (j * 3)).block, (ae.add (j * 3)).off + 1, none⟩ = some (.int .i64 u.f1) ∧ w'.cell? ⟨(ae.add (j * 3)).block, (ae.add (j * 3)).off + 2, none⟩ = some (.string u.f2)) (ds := []) #[false, false, false, false, false, false, false, false] (by kernel_rfl) rfl rfl ⟨ht1, hy0, hy1, hy2⟩ (fun hHeld => ?_)
                  refine pure_ (i := 0) (N := some 100) (v := ?_) (a' := ?_) #[true, false, false, false, false, false, false, false] rfl rfl (by kernel_rfl) (fun _ _ _ h => h) (Or.inl ⟨by rfl, ?_⟩) ?_ ?_
                  rotate_left
                  · intro w'
                    go_simp
                    with_reducible rfl
                  rotate_left
                  · simp only [Act.put, List.setIfInBounds_toArray, List.set_cons_zero, List.set_cons_succ, i64_w, i32_w]
                    rfl
                  refine pure_ (i := 1) (N := some 101) (v := ?_) (a' := ?_) #[true, true, false, false, false, false, false, false] rfl rfl (by kernel_rfl) (fun _ _ _ h => h) (Or.inl ⟨by rfl, ?_⟩) ?_ ?_
                  rotate_left
                  · intro w'
                    go_simp
                    with_reducible rfl
                  rotate_left
                  · simp only [Act.put, List.setIfInBounds_toArray, List.set_cons_zero, List.set_cons_succ, i64_w, i32_w]
                    rfl
                  refine pure_ (i := 3) (N := some 103) (v := ?_) (a' := ?_) #[true, true, false, true, false, false, false, false] rfl rfl (by kernel_rfl) (fun _ _ _ h => h) (Or.inl ⟨by rfl, ?_⟩) ?_ ?_
                  rotate_left
                  · intro w'
                    go_simp
                    with_reducible rfl
                  rotate_left
                  · simp only [Act.put, List.setIfInBounds_toArray, List.set_cons_zero, List.set_cons_succ, i64_w, i32_w]
                    rfl
                  refine pure_ (i := 4) (N := some 104) (v := ?_) (a' := ?_) #[true, true, false, true, true, false, false, false] rfl rfl (by kernel_rfl) (fun _ _ _ h => h) (Or.inl ⟨by rfl, ?_⟩) ?_ ?_
                  rotate_left
                  · intro w'
                    go_simp
                    with_reducible rfl
                  rotate_left
                  · simp only [Act.put, List.setIfInBounds_toArray, List.set_cons_zero, List.set_cons_succ, i64_w, i32_w]
                    rfl
                  refine pure_ (i := 5) (N := some 105) (v := ?_) (a' := ?_) #[true, true, false, true, true, true, false, false] rfl rfl (by kernel_rfl) (fun _ _ _ h => h) (Or.inl ⟨by rfl, ?_⟩) ?_ ?_
                  rotate_left
                  · intro w'
                    go_simp
                    with_reducible rfl
                  rotate_left
                  · simp only [Act.put, List.setIfInBounds_toArray, List.set_cons_zero, List.set_cons_succ, i64_w, i32_w]
                    rfl
                  refine take_ (i := 2) (N := some 102) (v := ?_) (a' := ?_) #[true, true, true, true, true, true, false, false] rfl rfl (by kernel_rfl) (fun _ _ _ h => h) (Or.inl ⟨by rfl, ?_⟩) hHeld ?_ ?_
                  rotate_left
                  · rintro w' ⟨s0, s1, s2, s3⟩
                    go_simp
                    with_reducible rfl
                  rotate_left
                  · simp only [Act.put, List.setIfInBounds_toArray, List.set_cons_zero, List.set_cons_succ, i64_w, i32_w]
                    rfl
                  refine take_ (i := 6) (N := some 106) (v := ?_) (a' := ?_) #[true, true, true, true, true, true, true, false] rfl rfl (by kernel_rfl) (fun _ _ _ h => h) (Or.inl ⟨by rfl, ?_⟩) hHeld ?_ ?_
                  rotate_left
                  · rintro w' ⟨s0, s1, s2, s3⟩
                    go_simp
                    with_reducible rfl
                  rotate_left
                  · simp only [Act.put, List.setIfInBounds_toArray, List.set_cons_zero, List.set_cons_succ, i64_w, i32_w]
                    rfl
                  refine one_ (i := 7) (N := none) #[true, true, true, true, true, true, true, true] rfl rfl (by kernel_rfl) (by decide) (fun K hK => ?_)
                  refine skip_ (w1 := ?_) (by rfl) rfl ?_ ?_
                  rotate_left
                  · go_simp
                    rfl
                  refine hK.out _ _ ⟨ht1', hy0', hy1', hy2'⟩ (fun hHeld => ?_)
                  clear hK K
                  refine done_ (by kernel_rfl) ?_
                  clear ht1 hy0 hy1 hy2 ht1' hy0' hy1' hy2' hrun
                  have HST' : Aside0 (stepM ((x :: p).drop (j + 1)) ((y :: q).drop (j + 1)) (putM t.f1 u m) = res) := ⟨by have h := HSU.out; rw [stepM_some HVT.out HGM.out, HE.out] at h; exact h⟩
                  go_wp2
                  go_roundw
                  case rel => exact ⟨j + 1, n + 1, putM t.f1 u m, by rw [HW.out], HJJ, HST', ⟨by have := HN.out; omega⟩, ⟨putM_rising HRM.out⟩, HM6, ⟨Kd.R_grown (Kd.R_drew (Kd.R_drew (Kd.R_below HX3.out HBW5.out))) HG6.out (fun k hk => by simpa using hk)⟩, ⟨Kd.R_grown (Kd.R_drew (Kd.R_drew (Kd.R_below HY3.out HBW5.out))) HG6.out (fun k hk => by simpa using hk)⟩, ⟨(HB5.out.drew.drew).grown HG6.out (HB5.out.drew.drew).size (fun k hk => by cases hk; have := GW.out; omega)⟩⟩
                  case measure => have := HJJ.out; rw [HW.out]; simp only [intOf, Int.toNat_natCast]; omega
                | false =>
                  have he1 : (was.f0 == u.f0 && (was.f1 == u.f1 && (was.f2.toList == u.f2.toList))) = false := he
                  have he2 : (!(was.f0 == u.f0) || (!(was.f1 == u.f1) || !(was.f2.toList == u.f2.toList))) = true := by have h1 := congrArg Bool.not he1; simpa only [Bool.not_and, Bool.not_false, Bool.not_true] using h1
                  have HE := Aside0.mk he
                  clear he
                  go_wp2_with (first | (go_at_call 27; refine (hvt _).mono ?_; rintro e w4 ⟨rfl, hb4⟩; have HB4 := Aside0.mk (below_step (below_alloc HB.out _) hb4); have BT := Aside0.mk (blk_below (blk_new wr _) hb4); have hbW := below_step (below_alloc (Below.refl _ wr) _) hb4; replace hy0 := (hbW.cell (World.block_lt_of_cell? wr _ hy0)).trans hy0; replace hy1 := (hbW.cell (World.block_lt_of_cell? wr _ hy1)).trans hy1; replace hy2 := (hbW.cell (World.block_lt_of_cell? wr _ hy2)).trans hy2; have HBW := Aside0.mk hbW; have ht0 : w4.cell? ⟨wr.heap.size, 0, none⟩ = some (.int .i64 t.f0) := blk_cell BT.out 0; have ht1 : w4.cell? ⟨wr.heap.size, 1, none⟩ = some (.int .i64 t.f1) := blk_cell BT.out 1; have ht2 : w4.cell? ⟨wr.heap.size, 2, none⟩ = some (.string t.f2) := blk_cell BT.out 2; clear hb4 hbW hx0 hx1 hx2) | (at_lookup; refine look_event _ rfl _ _ rfl w1.heap.size n m _ was true rfl (map_below HM.out HBW.out) rfl HIN.out (by rw [HGM.out]; rfl) (by rw [HGM.out]; rfl) ?_) | go_in)
                  have hbx := below_alloc (Below.refl w4.heap.size w4) (Obj.cells #[.int .i64 was.f0, .int .i64 was.f1, .string was.f2] 23 (0, 0))
                  have hbn := blk_new w4 (Obj.cells #[.int .i64 was.f0, .int .i64 was.f1, .string was.f2] 23 (0, 0))
                  generalize w4.alloc (Obj.cells #[.int .i64 was.f0, .int .i64 was.f1, .string was.f2] 23 (0, 0)) = w5 at hbx hbn ⊢
                  have HB5 := Aside0.mk (below_step HB4.out hbx)
                  have HBW5 := Aside0.mk (below_step HBW.out hbx)
                  replace hy0 := (hbx.cell (World.block_lt_of_cell? w4 _ hy0)).trans hy0
                  replace hy1 := (hbx.cell (World.block_lt_of_cell? w4 _ hy1)).trans hy1
                  replace hy2 := (hbx.cell (World.block_lt_of_cell? w4 _ hy2)).trans hy2
                  replace ht1 := (hbx.cell (World.block_lt_of_cell? w4 _ ht1)).trans ht1
                  have hw0 : w5.cell? ⟨w4.heap.size, 0, none⟩ = some (.int .i64 was.f0) := blk_cell hbn 0
                  have hw1 : w5.cell? ⟨w4.heap.size, 1, none⟩ = some (.int .i64 was.f1) := blk_cell hbn 1
                  have hw2 : w5.cell? ⟨w4.heap.size, 2, none⟩ = some (.string was.f2) := blk_cell hbn 2
                  clear hbx hbn ht0 ht2
                  refine start_ (n := 9) (S := fun w' => w'.cell? ⟨w4.heap.size, 0, none⟩ = some (.int .i64 was.f0) ∧ w'.cell? ⟨w4.heap.size, 1, none⟩ = some (.int .i64 was.f1) ∧ w'.cell? ⟨w4.heap.size, 2, none⟩ = some (.string was.f2) ∧ w'.cell? (ae.add (j * 3)) = some (.int .i64 u.f0) ∧ w'.cell? ⟨(ae.add (j * 3)).block, (ae.add (j * 3)).off + 1, none⟩ = some (.int .i64 u.f1) ∧ w'.cell? ⟨(ae.add (j * 3)).block, (ae.add (j * 3)).off + 2, none⟩ = some (.string u.f2)) (ds := []) #[false, false, false, false, false, false, false, false, false] (by kernel_rfl) rfl rfl ⟨hw0, hw1, hw2, hy0, hy1, hy2⟩ (fun hHeld => ?_)
                  refine pure_ (i := 0) (N := some 91) (v := ?_) (a' := ?_) #[true, false, false, false, false, false, false, false, false] rfl rfl (by kernel_rfl) (fun _ _ _ h => h) (Or.inl ⟨by rfl, ?_⟩) ?_ ?_
                  rotate_left
                  · intro w'
                    go_simp
                    with_reducible rfl
                  rotate_left
                  · simp only [Act.put, List.setIfInBounds_toArray, List.set_cons_zero, List.set_cons_succ, i64_w, i32_w]
                    rfl
                  refine pure_ (i := 1) (N := some 92) (v := ?_) (a' := ?_) #[true, true, false, false, false, false, false, false, false] rfl rfl (by kernel_rfl) (fun _ _ _ h => h) (Or.inl ⟨by rfl, ?_⟩) ?_ ?_
                  rotate_left
                  · intro w'
                    go_simp
                    with_reducible rfl
                  rotate_left
                  · simp only [Act.put, List.setIfInBounds_toArray, List.set_cons_zero, List.set_cons_succ, i64_w, i32_w]
                    rfl
                  refine pure_ (i := 3) (N := some 94) (v := ?_) (a' := ?_) #[true, true, false, true, false, false, false, false, false] rfl rfl (by kernel_rfl) (fun _ _ _ h => h) (Or.inl ⟨by rfl, ?_⟩) ?_ ?_
                  rotate_left
                  · intro w'
                    go_simp
                    with_reducible rfl
                  rotate_left
                  · simp only [Act.put, List.setIfInBounds_toArray, List.set_cons_zero, List.set_cons_succ, i64_w, i32_w]
                    rfl
                  refine pure_ (i := 4) (N := some 95) (v := ?_) (a' := ?_) #[true, true, false, true, true, false, false, false, false] rfl rfl (by kernel_rfl) (fun _ _ _ h => h) (Or.inl ⟨by rfl, ?_⟩) ?_ ?_
                  rotate_left
                  · intro w'
                    go_simp
                    with_reducible rfl
                  rotate_left
                  · simp only [Act.put, List.setIfInBounds_toArray, List.set_cons_zero, List.set_cons_succ, i64_w, i32_w]
                    rfl
                  refine pure_ (i := 5) (N := some 96) (v := ?_) (a' := ?_) #[true, true, false, true, true, true, false, false, false] rfl rfl (by kernel_rfl) (fun _ _ _ h => h) (Or.inl ⟨by rfl, ?_⟩) ?_ ?_
                  rotate_left
                  · intro w'
                    go_simp
                    with_reducible rfl
                  rotate_left
                  · simp only [Act.put, List.setIfInBounds_toArray, List.set_cons_zero, List.set_cons_succ, i64_w, i32_w]
                    rfl
                  refine take_ (i := 2) (N := some 93) (v := ?_) (a' := ?_) #[true, true, true, true, true, true, false, false, false] rfl rfl (by kernel_rfl) (fun _ _ _ h => h) (Or.inl ⟨by rfl, ?_⟩) hHeld ?_ ?_
                  rotate_left
                  · rintro w' ⟨s0, s1, s2, s3, s4, s5⟩
                    go_simp
                    with_reducible rfl
                  rotate_left
                  · simp only [Act.put, List.setIfInBounds_toArray, List.set_cons_zero, List.set_cons_succ, i64_w, i32_w]
                    rfl
                  refine take_ (i := 6) (N := some 97) (v := ?_) (a' := ?_) #[true, true, true, true, true, true, true, false, false] rfl rfl (by kernel_rfl) (fun _ _ _ h => h) (Or.inl ⟨by rfl, ?_⟩) hHeld ?_ ?_
                  rotate_left
                  · rintro w' ⟨s0, s1, s2, s3, s4, s5⟩
                    go_simp
                    with_reducible rfl
                  rotate_left
                  · simp only [Act.put, List.setIfInBounds_toArray, List.set_cons_zero, List.set_cons_succ, i64_w, i32_w]
                    rfl
                  refine pure_ (i := 7) (N := some 98) (v := ?_) (a' := ?_) #[true, true, true, true, true, true, true, true, false] rfl rfl (by kernel_rfl) (fun _ _ _ h => h) (Or.inl ⟨by rfl, ?_⟩) ?_ ?_
                  rotate_left
                  · intro w'
                    go_simp
                    with_reducible rfl
                  rotate_left
                  · simp only [Act.put, List.setIfInBounds_toArray, List.set_cons_zero, List.set_cons_succ, i64_w, i32_w]
                    rfl
                  refine pure_ (i := 8) (N := some 99) (v := ?_) (a' := ?_) #[true, true, true, true, true, true, true, true, true] rfl rfl (by kernel_rfl) (fun _ _ _ h => h) (Or.inl ⟨by rfl, ?_⟩) ?_ ?_
                  rotate_left
                  · intro w'
                    go_simp
                    with_reducible rfl
                  rotate_left
                  · simp only [Act.put, List.setIfInBounds_toArray, List.set_cons_zero, List.set_cons_succ, i64_w, i32_w]
                    rfl
                  refine done_ (by kernel_rfl) ?_
                  obtain rfl : res = none := by have h := HSU.out; rw [stepM_some HVT.out HGM.out, HE.out] at h; exact h.symm
                  clear hw0 hw1 hw2 he1 he2 ht1 hy0 hy1 hy2
                  go_wp2
                  go_ret2
                  exact ⟨_, rfl, Kd.R_nil _ _ _ _ _, HB5.out.drew⟩
          · obtain rfl : j = N := by have := HJ.out; omega
            have hj' : decide ((j : Int) < (j : Int)) = false := by simp
            obtain rfl : res = some m := by
              have h := HST.out
              rw [show (x :: p).drop j = [] from List.drop_eq_nil_of_le (by rw [← HNX.out]; exact Nat.le_refl _)] at h
              exact h.symm
            have hso := term_sorted.calls w1.heap.size n m wr HM.out HRM.out (by have h1 := ownsMap_len HM.out; have h2 := HN.out; have h3 := HOK.out.2.2.2.2.2.1; have h4 := HOK.out.2.2.2.2.2.2.2; have h5 := HNX.out; simp [smallN] at h3 h4; simp at h5; omega)
            go_wp2_with (go_at_call 51; refine hso.mono ?_; rintro e w5 ⟨v5, rfl, hR5, hb5⟩)
            go_ret2
            exact ⟨_, rfl, Kd.R_lower hR5 HB.out.size, below_step HB.out hb5⟩
  | true =>
    have hk1 := hk rfl
    go_enter Tryd.func14, Tryd.ntmps14
    go_wp2_with (go_at_call 27; refine (hvc _).mono ?_; rintro e w1 ⟨rfl, hb1⟩; have HB1 := Aside0.mk (below_step (below_alloc (below_alloc (Below.refl _ w) _) _) hb1); have BK3 := Aside0.mk (blk_below (blk_alloc (blk_new w _) _) hb1); have BK4 := Aside0.mk (blk_below (blk_new (w.alloc _) _) hb1); have HS1 := Aside0.mk hb1.size; have hcy : w1.cell? ⟨w.heap.size + 1, 0, none⟩ = some (.int .i64 y.f0) := (by have h1 := blk_cell BK4.out 0; rw [show (w.alloc (Obj.cells #[.int .i64 x.f0, .int .i64 x.f1, .string x.f2, .string n0, .slice A0 p.length c0] 26 (0, 0))).heap.size = w.heap.size + 1 by simp] at h1; exact h1); clear hb1)
    clear hcy
    have hs4 : ∀ o : Obj, (w.alloc o).heap.size = w.heap.size + 1 := fun o => by simp
    rw [hs4] at BK4
    have GW : Aside0 (w.heap.size + 2 ≤ w1.heap.size) := ⟨by have h := HS1.out; simpa using h⟩
    clear hs4 HS1
    go_loopw [46] (fun v46 wr => ∃ i : Nat, v46 = .int .i64 (i : Int) ∧ Aside0 (i ≤ s.length) ∧ Aside0 (wr.ownsMap Tryd.prog 3 RT w1.heap.size i (mapD (startM (s.take i)))) ∧ Aside0 (wr.heap[w.heap.size]? = some (.cells #[.int .i64 x.f0, .int .i64 x.f1, .string x.f2, .string n0, .slice A0 p.length c0] 26 (0, 0))) ∧ Aside0 (wr.heap[w.heap.size + 1]? = some (.cells #[.int .i64 y.f0, .int .i64 y.f1, .string y.f2, .string n1, .slice A1 q.length c1] 26 (0, 0))) ∧ Aside0 (Below w.heap.size w wr))
      (fun v46 _ => s.length - (intOf v46).toNat)
    case atStart => exact ⟨0, rfl, ⟨Nat.zero_le _⟩, ⟨World.ownsMap_made w1 _ _ _⟩, ⟨blk_alloc BK3.out _⟩, ⟨blk_alloc BK4.out _⟩, ⟨below_alloc HB1.out _⟩⟩
    case round =>
      obtain ⟨i, rfl, HI, HM, BK3', BK4', HB⟩ := hrel
      clear BK3 BK4 HB1
      by_cases hi : i < s.length
      · have hi' : decide ((i : Int) < (s.length : Int)) = true := by simpa using hi
        have p0 : 0 ≤ (i : Int) := by omega
        have q0 : (i : Int) < (s.length : Int) := by omega
        obtain ⟨ad, ead, hx0, hx1, hx2, hx3⟩ := at_T44 HX.out.2.2.1 (i : Int) p0 q0
        cases ead
        rw [Int.toNat_natCast] at hx0 hx1 hx2 hx3
        replace hx0 := (HB.out.cell (World.block_lt_of_cell? w _ hx0)).trans hx0
        replace hx1 := (HB.out.cell (World.block_lt_of_cell? w _ hx1)).trans hx1
        replace hx2 := (HB.out.cell (World.block_lt_of_cell? w _ hx2)).trans hx2
        replace hx3 := (HB.out.cell (World.block_lt_of_cell? w _ hx3)).trans hx3
        have hmem := rd_mem44 s i hi
        have htk := take_rd44 s i hi
        have hst := startM_snoc (s.take i) (rd_T44 s (i : Int))
        rw [← htk] at hst
        have hok := List.all_eq_true.1 HOK.out.2.2.2.2.1 _ hmem
        have hin : inI (rd_T44 s (i : Int)).f0 = true := by simp [okB] at hok; exact hok.1
        have HW : Aside0 (wrap64 ((i : Int) + 1) = ((i + 1 : Nat) : Int)) := ⟨by have h1 := HOK.out.2.2.2.2.2.2.2; simp [smallN] at h1; unfold wrap64; omega⟩
        have HST := Aside0.mk hst
        have HIN := Aside0.mk hin
        have HII := Aside0.mk hi
        clear hmem htk hst hok hin hi
        cases hgm : getM (startM (s.take i)) (rd_T44 s (i : Int)).f0 with
        | some t =>
          have HST2 : Aside0 (startM (s.take (i + 1)) = startM (s.take i)) := ⟨by rw [HST.out, hgm]; rfl⟩
          have HGM := Aside0.mk hgm
          clear hgm
          go_wp2_with (first
            | (at_lookup; refine look_event _ rfl _ _ rfl w1.heap.size i _ _ t true rfl (HM.out.alloc _) rfl HIN.out (by rw [HGM.out]; rfl) (by rw [HGM.out]; rfl) ?_)
            | go_in)
          go_roundw
          case rel => exact ⟨i + 1, by rw [HW.out], ⟨HII.out⟩, ⟨by rw [HST2.out]; exact ((HM.out.alloc _).alloc _).mono (Nat.le_succ i)⟩, ⟨blk_alloc (blk_alloc BK3'.out _) _⟩, ⟨blk_alloc (blk_alloc BK4'.out _) _⟩, ⟨below_alloc (below_alloc HB.out _) _⟩⟩
          case measure => have := HII.out; rw [HW.out]; simp only [intOf, Int.toNat_natCast]; omega
        | none =>
          have HST2 : Aside0 (startM (s.take (i + 1)) = putM (rd_T44 s (i : Int)).f0 (rd_T44 s (i : Int)).f1 (startM (s.take i))) := ⟨by rw [HST.out, hgm]; rfl⟩
          have HGM := Aside0.mk hgm
          clear hgm
          go_wp2_with (first
            | (at_lookup; refine look_event _ rfl _ _ rfl w1.heap.size i _ _ ⟨0, 0, ⟨#[]⟩⟩ false rfl (HM.out.alloc _) rfl HIN.out (by rw [HGM.out]; rfl) (by rw [HGM.out]; rfl) ?_)
            | (at_mapUpdate; refine upd_event _ rfl _ _ _ rfl w1.heap.size i _ _ (rd_T44 s (i : Int)).f1 rfl ((HM.out.alloc _).alloc _) (startM_rising _) (by have h1 := HOK.out.2.2.2.2.2.2.2; have h2 := HII.out; simp [smallN] at h1; simp [maxLen]; omega) rfl rfl HIN.out ?_; intro w2 hm2 hg2; have HM2 := Aside0.mk hm2; have HG2 := Aside0.mk hg2; clear hm2 hg2)
            | go_in)
          go_roundw
          case rel => exact ⟨i + 1, by rw [HW.out], ⟨HII.out⟩, ⟨by rw [HST2.out]; exact HM2.out⟩, ⟨blk_grown (blk_alloc (blk_alloc BK3'.out _) _) HG2.out (by have := GW.out; simp; omega)⟩, ⟨blk_grown (blk_alloc (blk_alloc BK4'.out _) _) HG2.out (by have := GW.out; simp; omega)⟩, ⟨(below_alloc (below_alloc HB.out _) _).grown HG2.out (below_alloc (below_alloc HB.out _) _).size (fun k hk => by cases hk; have := GW.out; omega)⟩⟩
          case measure => have := HII.out; rw [HW.out]; simp only [intOf, Int.toNat_natCast]; omega
      · have hi' : decide ((i : Int) < (s.length : Int)) = false := by simpa using hi
        obtain rfl : i = s.length := by have := HI.out; omega
        rw [List.take_length] at HM
        have hcell : ∀ g cs t, wr.heap[g]? = some (Obj.cells cs t (0, 0)) → ∀ j, wr.cell? ⟨g, j, none⟩ = cs[j]? := fun g cs t h j => blk_cell h j
        have hca := fun j => hcell _ _ _ BK4'.out j
        have ha0 : wr.cell? ⟨w.heap.size + 1, 0, none⟩ = some (.int .i64 y.f0) := hca 0
        have ha1 : wr.cell? ⟨w.heap.size + 1, 1, none⟩ = some (.int .i64 y.f1) := hca 1
        have ha2 : wr.cell? ⟨w.heap.size + 1, 2, none⟩ = some (.string y.f2) := hca 2
        have ha3 : wr.cell? ⟨w.heap.size + 1, 3, none⟩ = some (.string n1) := hca 3
        have ha4 : wr.cell? ⟨w.heap.size + 1, 4, none⟩ = some (.slice A1 q.length c1) := hca 4
        have hpl := fun W h => places_calls y n1 A1 c1 q W h HX.out.2.1.2 HOK.out.2.2.2.2.2.2.1
        clear hca hcell
        have hb3 := fun j => blk_cell BK3'.out j
        have hd0 : wr.cell? ⟨w.heap.size, 0, none⟩ = some (.int .i64 x.f0) := hb3 0
        have hd1 : wr.cell? ⟨w.heap.size, 1, none⟩ = some (.int .i64 x.f1) := hb3 1
        have hd2 : wr.cell? ⟨w.heap.size, 2, none⟩ = some (.string x.f2) := hb3 2
        have hd3 : wr.cell? ⟨w.heap.size, 3, none⟩ = some (.string n0) := hb3 3
        have hd4 : wr.cell? ⟨w.heap.size, 4, none⟩ = some (.slice A0 p.length c0) := hb3 4
        have hpl2 := fun W h => places_calls x n0 A0 c0 p W h HX.out.1.2 HOK.out.2.2.2.2.2.1
        have hwl : w.heap.size < wr.heap.size := by have := HM.out.lt; have := GW.out; omega
        clear hb3
        obtain ⟨N, hN⟩ : ∃ N, N = (x :: p).length := ⟨_, rfl⟩
        have hNy : N = (y :: q).length := by rw [hN]; simp [HL.out]
        have HNX := Aside0.mk hN
        have HNY := Aside0.mk hNy
        clear hN hNy
        go_wp2_with (first
          | (go_at_call 50; refine (hpl _ (Kd.C_below HX.out.2.1.1 HB.out)).mono ?_; rintro e w2 ⟨vy, rfl, hRy, hb2⟩; have HB2 := Aside0.mk (below_step HB.out hb2); have HM2 := Aside0.mk (map_below HM.out hb2); have HRY := Aside0.mk (Kd.R_lower (R_off hRy HM.out.lt) (Nat.le_of_lt hwl)); have hlt2 := hb2.size; rw [← hb2.cell (p := ⟨w.heap.size, 0, none⟩) hwl] at hd0; rw [← hb2.cell (p := ⟨w.heap.size, 1, none⟩) hwl] at hd1; rw [← hb2.cell (p := ⟨w.heap.size, 2, none⟩) hwl] at hd2; rw [← hb2.cell (p := ⟨w.heap.size, 3, none⟩) hwl] at hd3; rw [← hb2.cell (p := ⟨w.heap.size, 4, none⟩) hwl] at hd4; clear ha0 ha1 ha2 ha3 ha4 hRy hb2)
          | (go_at_call 50; refine (hpl2 _ (Kd.C_below HX.out.1.1 HB2.out)).mono ?_; rintro e w3 ⟨vx, rfl, hRx, hb3⟩; obtain ⟨ax, cx, evx⟩ := Kd.R_slice hRx; rw [← HNX.out] at evx; subst evx; have HB3 := Aside0.mk (below_step HB2.out hb3); have HM3 := Aside0.mk (map_below HM2.out hb3); have HRX := Aside0.mk (Kd.R_lower (R_off hRx HM2.out.lt) HB2.out.size); have HRY3 := Aside0.mk (Kd.R_below HRY.out hb3); clear hRx hb3 hd0 hd1 hd2 hd3 hd4 hpl hpl2))
        obtain ⟨ay, cy, evy⟩ := Kd.R_slice HRY3.out
        rw [← HNY.out] at evy
        subst evy
        clear hlt2 hwl HRY HM2 HB2 HM HB BK3' BK4'
        have HRS := Aside0.mk (startM_rising s)
        go_loopw [70] (fun v70 wr => ∃ (j n : Nat) (m : List Bd), v70 = .int .i64 (j : Int) ∧ Aside0 (j ≤ N) ∧ Aside0 (stepM ((x :: p).drop j) ((y :: q).drop j) m = res) ∧ Aside0 (n ≤ s.length + j) ∧ Aside0 (Rising m) ∧ Aside0 (wr.ownsMap Tryd.prog 3 RT w1.heap.size n (mapD m)) ∧ Aside0 (Kd.R k23 23 wr w.heap.size (fun k => k ≠ w1.heap.size) (.slice ax N cx) (x :: p)) ∧ Aside0 (Kd.R k23 23 wr w.heap.size (fun k => k ≠ w1.heap.size) (.slice ay N cy) (y :: q)) ∧ Aside0 (Below w.heap.size w wr))
          (fun v70 _ => N - (intOf v70).toNat)
        case atStart => exact ⟨0, s.length, startM s, rfl, ⟨Nat.zero_le _⟩, ⟨HRES.out.symm⟩, ⟨Nat.le_refl _⟩, HRS, HM3, HRX, HRY3, HB3⟩
        case round =>
          obtain ⟨j, n, m, rfl, HJ, HST, HN, HRM, HM, HX3, HY3, HB⟩ := hrel
          clear HRS HM3 HRX HRY3 HB3
          by_cases hj : j < N
          · have hj' : decide ((j : Int) < (N : Int)) = true := decide_eq_true (by omega)
            have hjx : j < (x :: p).length := by rw [← HNX.out]; exact hj
            have hjy : j < (y :: q).length := by rw [← HNY.out]; exact hj
            have p0 : 0 ≤ (j : Int) := by omega
            have q2 : (j : Int) < (N : Int) := by omega
            have q0 : (j : Int) < ((x :: p).length : Int) := by omega
            have q1 : (j : Int) < ((y :: q).length : Int) := by omega
            obtain ⟨ad, ead, hx0, hx1, hx2⟩ := at_T23 (R_C HX3.out) (j : Int) p0 q0
            obtain ⟨ae, eae, hy0, hy1, hy2⟩ := at_T23 (R_C HY3.out) (j : Int) p0 q1
            cases ead
            cases eae
            rw [Int.toNat_natCast] at hx0 hx1 hx2 hy0 hy1 hy2
            have hdx := drop_rd23 (x :: p) j hjx
            have hdy := drop_rd23 (y :: q) j hjy
            have hmem := rd_mem23 (x :: p) j hjx
            have hmey := rd_mem23 (y :: q) j hjy
            generalize rd_T23 (x :: p) (j : Int) = t at *
            generalize rd_T23 (y :: q) (j : Int) = u at *
            have hokt : okT t = true := by
              rcases List.mem_cons.1 hmem with rfl | h
              · exact HOK.out.1
              · exact List.all_eq_true.1 HOK.out.2.2.1 _ h
            have HIN : Aside0 (inI t.f1 = true) := ⟨by simp [okT] at hokt; exact hokt.2.1⟩
            have HST2 := HST.out
            rw [hdx, hdy] at HST2
            have HSU := Aside0.mk HST2
            have HJJ := Aside0.mk hj
            have hvt := fun W => var_calls t W
            have HW : Aside0 (wrap64 ((j : Int) + 1) = ((j + 1 : Nat) : Int)) := ⟨by have h1 := HOK.out.2.2.2.2.2.1; have h2 := HNX.out; simp [smallN] at h1; simp at h2; unfold wrap64; omega⟩
            clear hdx hdy hmem hmey hokt HST2 hj hjx hjy HST q0 q1
            cases hv : isVar t with
            | false =>
              rw [hv] at hvt
              have HVT := Aside0.mk hv
              clear hv
              cases he : eqT t u with
              | true =>
                have he1 : (t.f0 == u.f0 && (t.f1 == u.f1 && (t.f2.toList == u.f2.toList))) = true := he
                have he2 : (!(t.f0 == u.f0) || (!(t.f1 == u.f1) || !(t.f2.toList == u.f2.toList))) = false := by have h1 := congrArg Bool.not he1; simpa only [Bool.not_and, Bool.not_false, Bool.not_true] using h1
                have HE := Aside0.mk he
                clear he
                go_wp2_with (first | (go_at_call 27; refine (hvt _).mono ?_; rintro e w4 ⟨rfl, hb4⟩; have HB4 := Aside0.mk (below_step (below_alloc HB.out _) hb4); have BT := Aside0.mk (blk_below (blk_new wr _) hb4); have hbW := below_step (below_alloc (Below.refl _ wr) _) hb4; replace hy0 := (hbW.cell (World.block_lt_of_cell? wr _ hy0)).trans hy0; replace hy1 := (hbW.cell (World.block_lt_of_cell? wr _ hy1)).trans hy1; replace hy2 := (hbW.cell (World.block_lt_of_cell? wr _ hy2)).trans hy2; have HBW := Aside0.mk hbW; have ht0 : w4.cell? ⟨wr.heap.size, 0, none⟩ = some (.int .i64 t.f0) := blk_cell BT.out 0; have ht1 : w4.cell? ⟨wr.heap.size, 1, none⟩ = some (.int .i64 t.f1) := blk_cell BT.out 1; have ht2 : w4.cell? ⟨wr.heap.size, 2, none⟩ = some (.string t.f2) := blk_cell BT.out 2; clear hb4 hbW hx0 hx1 hx2))
                go_region_held3 (fun w' => w'.cell? ⟨wr.heap.size, 0, none⟩ = some (.int .i64 t.f0) ∧ w'.cell? ⟨wr.heap.size, 1, none⟩ = some (.int .i64 t.f1) ∧ w'.cell? ⟨wr.heap.size, 2, none⟩ = some (.string t.f2) ∧ w'.cell? (ae.add (j * 3)) = some (.int .i64 u.f0) ∧ w'.cell? ⟨(ae.add (j * 3)).block, (ae.add (j * 3)).off + 1, none⟩ = some (.int .i64 u.f1) ∧ w'.cell? ⟨(ae.add (j * 3)).block, (ae.add (j * 3)).off + 2, none⟩ = some (.string u.f2)) (go_keep) (fail)
                have HST' : Aside0 (stepM ((x :: p).drop (j + 1)) ((y :: q).drop (j + 1)) m = res) := ⟨by have h := HSU.out; rw [stepM_fix HVT.out, HE.out] at h; exact h⟩
                clear ht0 ht1 ht2 hy0 hy1 hy2 he1 he2
                go_wp2
                go_roundw
                case rel => exact ⟨j + 1, n, m, by rw [HW.out], HJJ, HST', ⟨Nat.le_succ_of_le HN.out⟩, HRM, ⟨(map_below HM.out HBW.out).drew⟩, ⟨Kd.R_drew (Kd.R_below HX3.out HBW.out)⟩, ⟨Kd.R_drew (Kd.R_below HY3.out HBW.out)⟩, ⟨HB4.out.drew⟩⟩
                case measure => have := HJJ.out; rw [HW.out]; simp only [intOf, Int.toNat_natCast]; omega
              | false =>
                have he1 : (t.f0 == u.f0 && (t.f1 == u.f1 && (t.f2.toList == u.f2.toList))) = false := he
                have he2 : (!(t.f0 == u.f0) || (!(t.f1 == u.f1) || !(t.f2.toList == u.f2.toList))) = true := by have h1 := congrArg Bool.not he1; simpa only [Bool.not_and, Bool.not_false, Bool.not_true] using h1
                have HE := Aside0.mk he
                clear he
                go_wp2_with (first | (go_at_call 27; refine (hvt _).mono ?_; rintro e w4 ⟨rfl, hb4⟩; have HB4 := Aside0.mk (below_step (below_alloc HB.out _) hb4); have BT := Aside0.mk (blk_below (blk_new wr _) hb4); have hbW := below_step (below_alloc (Below.refl _ wr) _) hb4; replace hy0 := (hbW.cell (World.block_lt_of_cell? wr _ hy0)).trans hy0; replace hy1 := (hbW.cell (World.block_lt_of_cell? wr _ hy1)).trans hy1; replace hy2 := (hbW.cell (World.block_lt_of_cell? wr _ hy2)).trans hy2; have HBW := Aside0.mk hbW; have ht0 : w4.cell? ⟨wr.heap.size, 0, none⟩ = some (.int .i64 t.f0) := blk_cell BT.out 0; have ht1 : w4.cell? ⟨wr.heap.size, 1, none⟩ = some (.int .i64 t.f1) := blk_cell BT.out 1; have ht2 : w4.cell? ⟨wr.heap.size, 2, none⟩ = some (.string t.f2) := blk_cell BT.out 2; clear hb4 hbW hx0 hx1 hx2))
                go_region_held3 (fun w' => w'.cell? ⟨wr.heap.size, 0, none⟩ = some (.int .i64 t.f0) ∧ w'.cell? ⟨wr.heap.size, 1, none⟩ = some (.int .i64 t.f1) ∧ w'.cell? ⟨wr.heap.size, 2, none⟩ = some (.string t.f2) ∧ w'.cell? (ae.add (j * 3)) = some (.int .i64 u.f0) ∧ w'.cell? ⟨(ae.add (j * 3)).block, (ae.add (j * 3)).off + 1, none⟩ = some (.int .i64 u.f1) ∧ w'.cell? ⟨(ae.add (j * 3)).block, (ae.add (j * 3)).off + 2, none⟩ = some (.string u.f2)) (go_keep) (fail)
                obtain rfl : res = none := by have h := HSU.out; rw [stepM_fix HVT.out, HE.out] at h; exact h.symm
                clear ht0 ht1 ht2 hy0 hy1 hy2 he1 he2
                go_wp2
                go_ret2
                exact ⟨_, rfl, Kd.R_nil _ _ _ _ _, HB4.out.drew⟩
            | true =>
              rw [hv] at hvt
              have HVT := Aside0.mk hv
              clear hv
              cases hgm : getM m t.f1 with
              | none =>
                have HGM := Aside0.mk hgm
                clear hgm
                go_wp2_with (first | (go_at_call 27; refine (hvt _).mono ?_; rintro e w4 ⟨rfl, hb4⟩; have HB4 := Aside0.mk (below_step (below_alloc HB.out _) hb4); have BT := Aside0.mk (blk_below (blk_new wr _) hb4); have hbW := below_step (below_alloc (Below.refl _ wr) _) hb4; replace hy0 := (hbW.cell (World.block_lt_of_cell? wr _ hy0)).trans hy0; replace hy1 := (hbW.cell (World.block_lt_of_cell? wr _ hy1)).trans hy1; replace hy2 := (hbW.cell (World.block_lt_of_cell? wr _ hy2)).trans hy2; have HBW := Aside0.mk hbW; have ht0 : w4.cell? ⟨wr.heap.size, 0, none⟩ = some (.int .i64 t.f0) := blk_cell BT.out 0; have ht1 : w4.cell? ⟨wr.heap.size, 1, none⟩ = some (.int .i64 t.f1) := blk_cell BT.out 1; have ht2 : w4.cell? ⟨wr.heap.size, 2, none⟩ = some (.string t.f2) := blk_cell BT.out 2; clear hb4 hbW hx0 hx1 hx2) | (at_lookup; refine look_event _ rfl _ _ rfl w1.heap.size n m _ ⟨0, 0, ⟨#[]⟩⟩ false rfl (map_below HM.out HBW.out) rfl HIN.out (by rw [HGM.out]; rfl) (by rw [HGM.out]; rfl) ?_) | go_in)
                have hbx := below_alloc (Below.refl w4.heap.size w4) (Obj.cells #[.int .i64 0, .int .i64 0, .string ⟨#[]⟩] 23 (0, 0))
                have hbn := blk_new w4 (Obj.cells #[.int .i64 0, .int .i64 0, .string ⟨#[]⟩] 23 (0, 0))
                generalize w4.alloc (Obj.cells #[.int .i64 0, .int .i64 0, .string ⟨#[]⟩] 23 (0, 0)) = w5 at hbx hbn ⊢
                have HB5 := Aside0.mk (below_step HB4.out hbx)
                have HBW5 := Aside0.mk (below_step HBW.out hbx)
                replace hy0 := (hbx.cell (World.block_lt_of_cell? w4 _ hy0)).trans hy0
                replace hy1 := (hbx.cell (World.block_lt_of_cell? w4 _ hy1)).trans hy1
                replace hy2 := (hbx.cell (World.block_lt_of_cell? w4 _ hy2)).trans hy2
                replace ht1 := (hbx.cell (World.block_lt_of_cell? w4 _ ht1)).trans ht1
                clear hbx hbn ht0 ht2
                refine start_ (n := 9) (S := fun w' => True) (ds := []) #[false, false, false, false, false, false, false, false, false] (by kernel_rfl) rfl rfl trivial (fun hHeld => ?_)
                refine pure_ (i := 0) (N := some 91) (v := ?_) (a' := ?_) #[true, false, false, false, false, false, false, false, false] rfl rfl (by kernel_rfl) (fun _ _ _ h => h) (Or.inl ⟨by rfl, ?_⟩) ?_ ?_
                rotate_left
                · intro w'
                  go_simp
                  with_reducible rfl
                rotate_left
                · simp only [Act.put, List.setIfInBounds_toArray, List.set_cons_zero, List.set_cons_succ, i64_w, i32_w]
                  rfl
                refine pure_ (i := 1) (N := some 92) (v := ?_) (a' := ?_) #[true, true, false, false, false, false, false, false, false] rfl rfl (by kernel_rfl) (fun _ _ _ h => h) (Or.inl ⟨by rfl, ?_⟩) ?_ ?_
                rotate_left
                · intro w'
                  go_simp
                  with_reducible rfl
                rotate_left
                · simp only [Act.put, List.setIfInBounds_toArray, List.set_cons_zero, List.set_cons_succ, i64_w, i32_w]
                  rfl
                refine pure_ (i := 2) (N := some 93) (v := undef) (a' := ?_) #[true, true, true, false, false, false, false, false, false] rfl rfl (by kernel_rfl) (fun _ _ _ h => h) (Or.inr ⟨by rfl, rfl⟩) ?_ ?_
                rotate_left
                · simp only [Act.put, List.setIfInBounds_toArray, List.set_cons_zero, List.set_cons_succ, i64_w, i32_w]
                  rfl
                refine pure_ (i := 3) (N := some 94) (v := undef) (a' := ?_) #[true, true, true, true, false, false, false, false, false] rfl rfl (by kernel_rfl) (fun _ _ _ h => h) (Or.inr ⟨by rfl, rfl⟩) ?_ ?_
                rotate_left
                · simp only [Act.put, List.setIfInBounds_toArray, List.set_cons_zero, List.set_cons_succ, i64_w, i32_w]
                  rfl
                refine pure_ (i := 4) (N := some 95) (v := undef) (a' := ?_) #[true, true, true, true, true, false, false, false, false] rfl rfl (by kernel_rfl) (fun _ _ _ h => h) (Or.inr ⟨by rfl, rfl⟩) ?_ ?_
                rotate_left
                · simp only [Act.put, List.setIfInBounds_toArray, List.set_cons_zero, List.set_cons_succ, i64_w, i32_w]
                  rfl
                refine pure_ (i := 5) (N := some 96) (v := undef) (a' := ?_) #[true, true, true, true, true, true, false, false, false] rfl rfl (by kernel_rfl) (fun _ _ _ h => h) (Or.inr ⟨by rfl, rfl⟩) ?_ ?_
                rotate_left
                · simp only [Act.put, List.setIfInBounds_toArray, List.set_cons_zero, List.set_cons_succ, i64_w, i32_w]
                  rfl
                refine pure_ (i := 6) (N := some 97) (v := undef) (a' := ?_) #[true, true, true, true, true, true, true, false, false] rfl rfl (by kernel_rfl) (fun _ _ _ h => h) (Or.inr ⟨by rfl, rfl⟩) ?_ ?_
                rotate_left
                · simp only [Act.put, List.setIfInBounds_toArray, List.set_cons_zero, List.set_cons_succ, i64_w, i32_w]
                  rfl
                refine pure_ (i := 7) (N := some 98) (v := undef) (a' := ?_) #[true, true, true, true, true, true, true, true, false] rfl rfl (by kernel_rfl) (fun _ _ _ h => h) (Or.inr ⟨by rfl, rfl⟩) ?_ ?_
                rotate_left
                · simp only [Act.put, List.setIfInBounds_toArray, List.set_cons_zero, List.set_cons_succ, i64_w, i32_w]
                  rfl
                refine pure_ (i := 8) (N := some 99) (v := ?_) (a' := ?_) #[true, true, true, true, true, true, true, true, true] rfl rfl (by kernel_rfl) (fun _ _ _ h => h) (Or.inl ⟨by rfl, ?_⟩) ?_ ?_
                rotate_left
                · intro w'
                  go_simp
                  with_reducible rfl
                rotate_left
                · simp only [Act.put, List.setIfInBounds_toArray, List.set_cons_zero, List.set_cons_succ, i64_w, i32_w]
                  rfl
                refine done_ (by kernel_rfl) ?_
                go_wp2
                have HM5 := Aside0.mk (map_below HM.out HBW5.out)
                obtain ⟨w6, hrun, hm6, hg6⟩ := World.ownsMap.update (w := w5.drew.drew) HM5.out lawI Tryd.underlying70 (by have h1 := HN.out; have h3 := HOK.out.2.2.2.2.2.1; have h4 := HOK.out.2.2.2.2.2.2.2; have h5 := HNX.out; have h6 := HJJ.out; simp [smallN] at h3 h4; simp at h5; simp [maxLen]; omega) (keyOf_int_mk Tryd.underlying3 (inI_wf HIN.out)) (RT_enc u)
                simp only [encT] at hrun
                have HM6 : Aside0 (w6.ownsMap Tryd.prog 3 RT w1.heap.size (n + 1) (mapD (putM t.f1 u m))) := ⟨put_mapD (t := u) (v := t.f1) HRM.out ▸ hm6⟩
                have HG6 := Aside0.mk hg6
                have hnt : some wr.heap.size ≠ some w1.heap.size := by have := HM.out.lt; simp; omega
                have hny : some ae.block ≠ some w1.heap.size := by have := HY3.out.1 ae.block rfl; simpa using this
                have hny2 : some (ae.add (j * 3)).block ≠ some w1.heap.size := by rw [add_blk]; exact hny
                have ht1' : w6.cell? ⟨wr.heap.size, 1, none⟩ = some (.int .i64 t.f1) := hg6.cell (a := ⟨wr.heap.size, 1, none⟩) ht1 hnt
                have hy0' : w6.cell? (ae.add (j * 3)) = some (.int .i64 u.f0) := hg6.cell (a := ae.add (j * 3)) hy0 hny2
                have hy1' : w6.cell? ⟨(ae.add (j * 3)).block, (ae.add (j * 3)).off + 1, none⟩ = some (.int .i64 u.f1) := hg6.cell (a := ⟨(ae.add (j * 3)).block, (ae.add (j * 3)).off + 1, none⟩) hy1 hny2
                have hy2' : w6.cell? ⟨(ae.add (j * 3)).block, (ae.add (j * 3)).off + 2, none⟩ = some (.string u.f2) := hg6.cell (a := ⟨(ae.add (j * 3)).block, (ae.add (j * 3)).off + 2, none⟩) hy2 hny2
                clear hm6 hg6 hnt hny hny2
                refine start_ (n := 8) (S := fun w' => w'.cell? ⟨wr.heap.size, 1, none⟩ = some (.int .i64 t.f1) ∧ w'.cell? (ae.add (j * 3)) = some (.int .i64 u.f0) ∧ w'.cell? ⟨(ae.add (j * 3)).block, (ae.add (j * 3)).off + 1, none⟩ = some (.int .i64 u.f1) ∧ w'.cell? ⟨(ae.add (j * 3)).block, (ae.add (j * 3)).off + 2, none⟩ = some (.string u.f2)) (ds := []) #[false, false, false, false, false, false, false, false] (by kernel_rfl) rfl rfl ⟨ht1, hy0, hy1, hy2⟩ (fun hHeld => ?_)
                refine pure_ (i := 0) (N := some 100) (v := ?_) (a' := ?_) #[true, false, false, false, false, false, false, false] rfl rfl (by kernel_rfl) (fun _ _ _ h => h) (Or.inl ⟨by rfl, ?_⟩) ?_ ?_
                rotate_left
                · intro w'
                  go_simp
                  with_reducible rfl
                rotate_left
                · simp only [Act.put, List.setIfInBounds_toArray, List.set_cons_zero, List.set_cons_succ, i64_w, i32_w]
                  rfl
                refine pure_ (i := 1) (N := some 101) (v := ?_) (a' := ?_) #[true, true, false, false, false, false, false, false] rfl rfl (by kernel_rfl) (fun _ _ _ h => h) (Or.inl ⟨by rfl, ?_⟩) ?_ ?_
                rotate_left
                · intro w'
                  go_simp
                  with_reducible rfl
                rotate_left
                · simp only [Act.put, List.setIfInBounds_toArray, List.set_cons_zero, List.set_cons_succ, i64_w, i32_w]
                  rfl
                refine pure_ (i := 3) (N := some 103) (v := ?_) (a' := ?_) #[true, true, false, true, false, false, false, false] rfl rfl (by kernel_rfl) (fun _ _ _ h => h) (Or.inl ⟨by rfl, ?_⟩) ?_ ?_
                rotate_left
                · intro w'
                  go_simp
                  with_reducible rfl
                rotate_left
                · simp only [Act.put, List.setIfInBounds_toArray, List.set_cons_zero, List.set_cons_succ, i64_w, i32_w]
                  rfl
                refine pure_ (i := 4) (N := some 104) (v := ?_) (a' := ?_) #[true, true, false, true, true, false, false, false] rfl rfl (by kernel_rfl) (fun _ _ _ h => h) (Or.inl ⟨by rfl, ?_⟩) ?_ ?_
                rotate_left
                · intro w'
                  go_simp
                  with_reducible rfl
                rotate_left
                · simp only [Act.put, List.setIfInBounds_toArray, List.set_cons_zero, List.set_cons_succ, i64_w, i32_w]
                  rfl
                refine pure_ (i := 5) (N := some 105) (v := ?_) (a' := ?_) #[true, true, false, true, true, true, false, false] rfl rfl (by kernel_rfl) (fun _ _ _ h => h) (Or.inl ⟨by rfl, ?_⟩) ?_ ?_
                rotate_left
                · intro w'
                  go_simp
                  with_reducible rfl
                rotate_left
                · simp only [Act.put, List.setIfInBounds_toArray, List.set_cons_zero, List.set_cons_succ, i64_w, i32_w]
                  rfl
                refine take_ (i := 2) (N := some 102) (v := ?_) (a' := ?_) #[true, true, true, true, true, true, false, false] rfl rfl (by kernel_rfl) (fun _ _ _ h => h) (Or.inl ⟨by rfl, ?_⟩) hHeld ?_ ?_
                rotate_left
                · rintro w' ⟨s0, s1, s2, s3⟩
                  go_simp
                  with_reducible rfl
                rotate_left
                · simp only [Act.put, List.setIfInBounds_toArray, List.set_cons_zero, List.set_cons_succ, i64_w, i32_w]
                  rfl
                refine take_ (i := 6) (N := some 106) (v := ?_) (a' := ?_) #[true, true, true, true, true, true, true, false] rfl rfl (by kernel_rfl) (fun _ _ _ h => h) (Or.inl ⟨by rfl, ?_⟩) hHeld ?_ ?_
                rotate_left
                · rintro w' ⟨s0, s1, s2, s3⟩
                  go_simp
                  with_reducible rfl
                rotate_left
                · simp only [Act.put, List.setIfInBounds_toArray, List.set_cons_zero, List.set_cons_succ, i64_w, i32_w]
                  rfl
                refine one_ (i := 7) (N := none) #[true, true, true, true, true, true, true, true] rfl rfl (by kernel_rfl) (by decide) (fun K hK => ?_)
                refine skip_ (w1 := ?_) (by rfl) rfl ?_ ?_
                rotate_left
                · go_simp
                  rfl
                refine hK.out _ _ ⟨ht1', hy0', hy1', hy2'⟩ (fun hHeld => ?_)
                clear hK K
                refine done_ (by kernel_rfl) ?_
                clear ht1 hy0 hy1 hy2 ht1' hy0' hy1' hy2' hrun
                have HST' : Aside0 (stepM ((x :: p).drop (j + 1)) ((y :: q).drop (j + 1)) (putM t.f1 u m) = res) := ⟨by have h := HSU.out; rw [stepM_new HVT.out HGM.out] at h; exact h⟩
                go_wp2
                go_roundw
                case rel => exact ⟨j + 1, n + 1, putM t.f1 u m, by rw [HW.out], HJJ, HST', ⟨by have := HN.out; omega⟩, ⟨putM_rising HRM.out⟩, HM6, ⟨Kd.R_grown (Kd.R_drew (Kd.R_drew (Kd.R_below HX3.out HBW5.out))) HG6.out (fun k hk => by simpa using hk)⟩, ⟨Kd.R_grown (Kd.R_drew (Kd.R_drew (Kd.R_below HY3.out HBW5.out))) HG6.out (fun k hk => by simpa using hk)⟩, ⟨(HB5.out.drew.drew).grown HG6.out (HB5.out.drew.drew).size (fun k hk => by cases hk; have := GW.out; omega)⟩⟩
                case measure => have := HJJ.out; rw [HW.out]; simp only [intOf, Int.toNat_natCast]; omega
              | some was =>
                have HGM := Aside0.mk hgm
                clear hgm
                cases he : eqT was u with
                | true =>
                  have he1 : (was.f0 == u.f0 && (was.f1 == u.f1 && (was.f2.toList == u.f2.toList))) = true := he
                  have he2 : (!(was.f0 == u.f0) || (!(was.f1 == u.f1) || !(was.f2.toList == u.f2.toList))) = false := by have h1 := congrArg Bool.not he1; simpa only [Bool.not_and, Bool.not_false, Bool.not_true] using h1
                  have HE := Aside0.mk he
                  clear he
                  go_wp2_with (first | (go_at_call 27; refine (hvt _).mono ?_; rintro e w4 ⟨rfl, hb4⟩; have HB4 := Aside0.mk (below_step (below_alloc HB.out _) hb4); have BT := Aside0.mk (blk_below (blk_new wr _) hb4); have hbW := below_step (below_alloc (Below.refl _ wr) _) hb4; replace hy0 := (hbW.cell (World.block_lt_of_cell? wr _ hy0)).trans hy0; replace hy1 := (hbW.cell (World.block_lt_of_cell? wr _ hy1)).trans hy1; replace hy2 := (hbW.cell (World.block_lt_of_cell? wr _ hy2)).trans hy2; have HBW := Aside0.mk hbW; have ht0 : w4.cell? ⟨wr.heap.size, 0, none⟩ = some (.int .i64 t.f0) := blk_cell BT.out 0; have ht1 : w4.cell? ⟨wr.heap.size, 1, none⟩ = some (.int .i64 t.f1) := blk_cell BT.out 1; have ht2 : w4.cell? ⟨wr.heap.size, 2, none⟩ = some (.string t.f2) := blk_cell BT.out 2; clear hb4 hbW hx0 hx1 hx2) | (at_lookup; refine look_event _ rfl _ _ rfl w1.heap.size n m _ was true rfl (map_below HM.out HBW.out) rfl HIN.out (by rw [HGM.out]; rfl) (by rw [HGM.out]; rfl) ?_) | go_in)
                  have hbx := below_alloc (Below.refl w4.heap.size w4) (Obj.cells #[.int .i64 was.f0, .int .i64 was.f1, .string was.f2] 23 (0, 0))
                  have hbn := blk_new w4 (Obj.cells #[.int .i64 was.f0, .int .i64 was.f1, .string was.f2] 23 (0, 0))
                  generalize w4.alloc (Obj.cells #[.int .i64 was.f0, .int .i64 was.f1, .string was.f2] 23 (0, 0)) = w5 at hbx hbn ⊢
                  have HB5 := Aside0.mk (below_step HB4.out hbx)
                  have HBW5 := Aside0.mk (below_step HBW.out hbx)
                  replace hy0 := (hbx.cell (World.block_lt_of_cell? w4 _ hy0)).trans hy0
                  replace hy1 := (hbx.cell (World.block_lt_of_cell? w4 _ hy1)).trans hy1
                  replace hy2 := (hbx.cell (World.block_lt_of_cell? w4 _ hy2)).trans hy2
                  replace ht1 := (hbx.cell (World.block_lt_of_cell? w4 _ ht1)).trans ht1
                  have hw0 : w5.cell? ⟨w4.heap.size, 0, none⟩ = some (.int .i64 was.f0) := blk_cell hbn 0
                  have hw1 : w5.cell? ⟨w4.heap.size, 1, none⟩ = some (.int .i64 was.f1) := blk_cell hbn 1
                  have hw2 : w5.cell? ⟨w4.heap.size, 2, none⟩ = some (.string was.f2) := blk_cell hbn 2
                  clear hbx hbn ht0 ht2
                  refine start_ (n := 9) (S := fun w' => w'.cell? ⟨w4.heap.size, 0, none⟩ = some (.int .i64 was.f0) ∧ w'.cell? ⟨w4.heap.size, 1, none⟩ = some (.int .i64 was.f1) ∧ w'.cell? ⟨w4.heap.size, 2, none⟩ = some (.string was.f2) ∧ w'.cell? (ae.add (j * 3)) = some (.int .i64 u.f0) ∧ w'.cell? ⟨(ae.add (j * 3)).block, (ae.add (j * 3)).off + 1, none⟩ = some (.int .i64 u.f1) ∧ w'.cell? ⟨(ae.add (j * 3)).block, (ae.add (j * 3)).off + 2, none⟩ = some (.string u.f2)) (ds := []) #[false, false, false, false, false, false, false, false, false] (by kernel_rfl) rfl rfl ⟨hw0, hw1, hw2, hy0, hy1, hy2⟩ (fun hHeld => ?_)
                  refine pure_ (i := 0) (N := some 91) (v := ?_) (a' := ?_) #[true, false, false, false, false, false, false, false, false] rfl rfl (by kernel_rfl) (fun _ _ _ h => h) (Or.inl ⟨by rfl, ?_⟩) ?_ ?_
                  rotate_left
                  · intro w'
                    go_simp
                    with_reducible rfl
                  rotate_left
                  · simp only [Act.put, List.setIfInBounds_toArray, List.set_cons_zero, List.set_cons_succ, i64_w, i32_w]
                    rfl
                  refine pure_ (i := 1) (N := some 92) (v := ?_) (a' := ?_) #[true, true, false, false, false, false, false, false, false] rfl rfl (by kernel_rfl) (fun _ _ _ h => h) (Or.inl ⟨by rfl, ?_⟩) ?_ ?_
                  rotate_left
                  · intro w'
                    go_simp
                    with_reducible rfl
                  rotate_left
                  · simp only [Act.put, List.setIfInBounds_toArray, List.set_cons_zero, List.set_cons_succ, i64_w, i32_w]
                    rfl
                  refine pure_ (i := 3) (N := some 94) (v := ?_) (a' := ?_) #[true, true, false, true, false, false, false, false, false] rfl rfl (by kernel_rfl) (fun _ _ _ h => h) (Or.inl ⟨by rfl, ?_⟩) ?_ ?_
                  rotate_left
                  · intro w'
                    go_simp
                    with_reducible rfl
                  rotate_left
                  · simp only [Act.put, List.setIfInBounds_toArray, List.set_cons_zero, List.set_cons_succ, i64_w, i32_w]
                    rfl
                  refine pure_ (i := 4) (N := some 95) (v := ?_) (a' := ?_) #[true, true, false, true, true, false, false, false, false] rfl rfl (by kernel_rfl) (fun _ _ _ h => h) (Or.inl ⟨by rfl, ?_⟩) ?_ ?_
                  rotate_left
                  · intro w'
                    go_simp
                    with_reducible rfl
                  rotate_left
                  · simp only [Act.put, List.setIfInBounds_toArray, List.set_cons_zero, List.set_cons_succ, i64_w, i32_w]
                    rfl
                  refine pure_ (i := 5) (N := some 96) (v := ?_) (a' := ?_) #[true, true, false, true, true, true, false, false, false] rfl rfl (by kernel_rfl) (fun _ _ _ h => h) (Or.inl ⟨by rfl, ?_⟩) ?_ ?_
                  rotate_left
                  · intro w'
                    go_simp
                    with_reducible rfl
                  rotate_left
                  · simp only [Act.put, List.setIfInBounds_toArray, List.set_cons_zero, List.set_cons_succ, i64_w, i32_w]
                    rfl
                  refine take_ (i := 2) (N := some 93) (v := ?_) (a' := ?_) #[true, true, true, true, true, true, false, false, false] rfl rfl (by kernel_rfl) (fun _ _ _ h => h) (Or.inl ⟨by rfl, ?_⟩) hHeld ?_ ?_
                  rotate_left
                  · rintro w' ⟨s0, s1, s2, s3, s4, s5⟩
                    go_simp
                    with_reducible rfl
                  rotate_left
                  · simp only [Act.put, List.setIfInBounds_toArray, List.set_cons_zero, List.set_cons_succ, i64_w, i32_w]
                    rfl
                  refine take_ (i := 6) (N := some 97) (v := ?_) (a' := ?_) #[true, true, true, true, true, true, true, false, false] rfl rfl (by kernel_rfl) (fun _ _ _ h => h) (Or.inl ⟨by rfl, ?_⟩) hHeld ?_ ?_
                  rotate_left
                  · rintro w' ⟨s0, s1, s2, s3, s4, s5⟩
                    go_simp
                    with_reducible rfl
                  rotate_left
                  · simp only [Act.put, List.setIfInBounds_toArray, List.set_cons_zero, List.set_cons_succ, i64_w, i32_w]
                    rfl
                  refine pure_ (i := 7) (N := some 98) (v := ?_) (a' := ?_) #[true, true, true, true, true, true, true, true, false] rfl rfl (by kernel_rfl) (fun _ _ _ h => h) (Or.inl ⟨by rfl, ?_⟩) ?_ ?_
                  rotate_left
                  · intro w'
                    go_simp
                    with_reducible rfl
                  rotate_left
                  · simp only [Act.put, List.setIfInBounds_toArray, List.set_cons_zero, List.set_cons_succ, i64_w, i32_w]
                    rfl
                  refine pure_ (i := 8) (N := some 99) (v := ?_) (a' := ?_) #[true, true, true, true, true, true, true, true, true] rfl rfl (by kernel_rfl) (fun _ _ _ h => h) (Or.inl ⟨by rfl, ?_⟩) ?_ ?_
                  rotate_left
                  · intro w'
                    go_simp
                    with_reducible rfl
                  rotate_left
                  · simp only [Act.put, List.setIfInBounds_toArray, List.set_cons_zero, List.set_cons_succ, i64_w, i32_w]
                    rfl
                  refine done_ (by kernel_rfl) ?_
                  clear hw0 hw1 hw2 he1 he2
                  go_wp2
                  have HM5 := Aside0.mk (map_below HM.out HBW5.out)
                  obtain ⟨w6, hrun, hm6, hg6⟩ := World.ownsMap.update (w := w5.drew.drew) HM5.out lawI Tryd.underlying70 (by have h1 := HN.out; have h3 := HOK.out.2.2.2.2.2.1; have h4 := HOK.out.2.2.2.2.2.2.2; have h5 := HNX.out; have h6 := HJJ.out; simp [smallN] at h3 h4; simp at h5; simp [maxLen]; omega) (keyOf_int_mk Tryd.underlying3 (inI_wf HIN.out)) (RT_enc u)
                  simp only [encT] at hrun
                  have HM6 : Aside0 (w6.ownsMap Tryd.prog 3 RT w1.heap.size (n + 1) (mapD (putM t.f1 u m))) := ⟨put_mapD (t := u) (v := t.f1) HRM.out ▸ hm6⟩
                  have HG6 := Aside0.mk hg6
                  have hnt : some wr.heap.size ≠ some w1.heap.size := by have := HM.out.lt; simp; omega
                  have hny : some ae.block ≠ some w1.heap.size := by have := HY3.out.1 ae.block rfl; simpa using this
                  have hny2 : some (ae.add (j * 3)).block ≠ some w1.heap.size := by rw [add_blk]; exact hny
                  have ht1' : w6.cell? ⟨wr.heap.size, 1, none⟩ = some (.int .i64 t.f1) := hg6.cell (a := ⟨wr.heap.size, 1, none⟩) ht1 hnt
                  have hy0' : w6.cell? (ae.add (j * 3)) = some (.int .i64 u.f0) := hg6.cell (a := ae.add (j * 3)) hy0 hny2
                  have hy1' : w6.cell? ⟨(ae.add (j * 3)).block, (ae.add (j * 3)).off + 1, none⟩ = some (.int .i64 u.f1) := hg6.cell (a := ⟨(ae.add (j * 3)).block, (ae.add (j * 3)).off + 1, none⟩) hy1 hny2
                  have hy2' : w6.cell? ⟨(ae.add (j * 3)).block, (ae.add (j * 3)).off + 2, none⟩ = some (.string u.f2) := hg6.cell (a := ⟨(ae.add (j * 3)).block, (ae.add (j * 3)).off + 2, none⟩) hy2 hny2
                  clear hm6 hg6 hnt hny hny2
                  refine start_ (n := 8) (S := fun w' => w'.cell? ⟨wr.heap.size, 1, none⟩ = some (.int .i64 t.f1) ∧ w'.cell? (ae.add (j * 3)) = some (.int .i64 u.f0) ∧ w'.cell? ⟨(ae.add (j * 3)).block, (ae.add (j * 3)).off + 1, none⟩ = some (.int .i64 u.f1) ∧ w'.cell? ⟨(ae.add (j * 3)).block, (ae.add (j * 3)).off + 2, none⟩ = some (.string u.f2)) (ds := []) #[false, false, false, false, false, false, false, false] (by kernel_rfl) rfl rfl ⟨ht1, hy0, hy1, hy2⟩ (fun hHeld => ?_)
                  refine pure_ (i := 0) (N := some 100) (v := ?_) (a' := ?_) #[true, false, false, false, false, false, false, false] rfl rfl (by kernel_rfl) (fun _ _ _ h => h) (Or.inl ⟨by rfl, ?_⟩) ?_ ?_
                  rotate_left
                  · intro w'
                    go_simp
                    with_reducible rfl
                  rotate_left
                  · simp only [Act.put, List.setIfInBounds_toArray, List.set_cons_zero, List.set_cons_succ, i64_w, i32_w]
                    rfl
                  refine pure_ (i := 1) (N := some 101) (v := ?_) (a' := ?_) #[true, true, false, false, false, false, false, false] rfl rfl (by kernel_rfl) (fun _ _ _ h => h) (Or.inl ⟨by rfl, ?_⟩) ?_ ?_
                  rotate_left
                  · intro w'
                    go_simp
                    with_reducible rfl
                  rotate_left
                  · simp only [Act.put, List.setIfInBounds_toArray, List.set_cons_zero, List.set_cons_succ, i64_w, i32_w]
                    rfl
                  refine pure_ (i := 3) (N := some 103) (v := ?_) (a' := ?_) #[true, true, false, true, false, false, false, false] rfl rfl (by kernel_rfl) (fun _ _ _ h => h) (Or.inl ⟨by rfl, ?_⟩) ?_ ?_
                  rotate_left
                  · intro w'
                    go_simp
                    with_reducible rfl
                  rotate_left
                  · simp only [Act.put, List.setIfInBounds_toArray, List.set_cons_zero, List.set_cons_succ, i64_w, i32_w]
                    rfl
                  refine pure_ (i := 4) (N := some 104) (v := ?_) (a' := ?_) #[true, true, false, true, true, false, false, false] rfl rfl (by kernel_rfl) (fun _ _ _ h => h) (Or.inl ⟨by rfl, ?_⟩) ?_ ?_
                  rotate_left
                  · intro w'
                    go_simp
                    with_reducible rfl
                  rotate_left
                  · simp only [Act.put, List.setIfInBounds_toArray, List.set_cons_zero, List.set_cons_succ, i64_w, i32_w]
                    rfl
                  refine pure_ (i := 5) (N := some 105) (v := ?_) (a' := ?_) #[true, true, false, true, true, true, false, false] rfl rfl (by kernel_rfl) (fun _ _ _ h => h) (Or.inl ⟨by rfl, ?_⟩) ?_ ?_
                  rotate_left
                  · intro w'
                    go_simp
                    with_reducible rfl
                  rotate_left
                  · simp only [Act.put, List.setIfInBounds_toArray, List.set_cons_zero, List.set_cons_succ, i64_w, i32_w]
                    rfl
                  refine take_ (i := 2) (N := some 102) (v := ?_) (a' := ?_) #[true, true, true, true, true, true, false, false] rfl rfl (by kernel_rfl) (fun _ _ _ h => h) (Or.inl ⟨by rfl, ?_⟩) hHeld ?_ ?_
                  rotate_left
                  · rintro w' ⟨s0, s1, s2, s3⟩
                    go_simp
                    with_reducible rfl
                  rotate_left
                  · simp only [Act.put, List.setIfInBounds_toArray, List.set_cons_zero, List.set_cons_succ, i64_w, i32_w]
                    rfl
                  refine take_ (i := 6) (N := some 106) (v := ?_) (a' := ?_) #[true, true, true, true, true, true, true, false] rfl rfl (by kernel_rfl) (fun _ _ _ h => h) (Or.inl ⟨by rfl, ?_⟩) hHeld ?_ ?_
                  rotate_left
                  · rintro w' ⟨s0, s1, s2, s3⟩
                    go_simp
                    with_reducible rfl
                  rotate_left
                  · simp only [Act.put, List.setIfInBounds_toArray, List.set_cons_zero, List.set_cons_succ, i64_w, i32_w]
                    rfl
                  refine one_ (i := 7) (N := none) #[true, true, true, true, true, true, true, true] rfl rfl (by kernel_rfl) (by decide) (fun K hK => ?_)
                  refine skip_ (w1 := ?_) (by rfl) rfl ?_ ?_
                  rotate_left
                  · go_simp
                    rfl
                  refine hK.out _ _ ⟨ht1', hy0', hy1', hy2'⟩ (fun hHeld => ?_)
                  clear hK K
                  refine done_ (by kernel_rfl) ?_
                  clear ht1 hy0 hy1 hy2 ht1' hy0' hy1' hy2' hrun
                  have HST' : Aside0 (stepM ((x :: p).drop (j + 1)) ((y :: q).drop (j + 1)) (putM t.f1 u m) = res) := ⟨by have h := HSU.out; rw [stepM_some HVT.out HGM.out, HE.out] at h; exact h⟩
                  go_wp2
                  go_roundw
                  case rel => exact ⟨j + 1, n + 1, putM t.f1 u m, by rw [HW.out], HJJ, HST', ⟨by have := HN.out; omega⟩, ⟨putM_rising HRM.out⟩, HM6, ⟨Kd.R_grown (Kd.R_drew (Kd.R_drew (Kd.R_below HX3.out HBW5.out))) HG6.out (fun k hk => by simpa using hk)⟩, ⟨Kd.R_grown (Kd.R_drew (Kd.R_drew (Kd.R_below HY3.out HBW5.out))) HG6.out (fun k hk => by simpa using hk)⟩, ⟨(HB5.out.drew.drew).grown HG6.out (HB5.out.drew.drew).size (fun k hk => by cases hk; have := GW.out; omega)⟩⟩
                  case measure => have := HJJ.out; rw [HW.out]; simp only [intOf, Int.toNat_natCast]; omega
                | false =>
                  have he1 : (was.f0 == u.f0 && (was.f1 == u.f1 && (was.f2.toList == u.f2.toList))) = false := he
                  have he2 : (!(was.f0 == u.f0) || (!(was.f1 == u.f1) || !(was.f2.toList == u.f2.toList))) = true := by have h1 := congrArg Bool.not he1; simpa only [Bool.not_and, Bool.not_false, Bool.not_true] using h1
                  have HE := Aside0.mk he
                  clear he
                  go_wp2_with (first | (go_at_call 27; refine (hvt _).mono ?_; rintro e w4 ⟨rfl, hb4⟩; have HB4 := Aside0.mk (below_step (below_alloc HB.out _) hb4); have BT := Aside0.mk (blk_below (blk_new wr _) hb4); have hbW := below_step (below_alloc (Below.refl _ wr) _) hb4; replace hy0 := (hbW.cell (World.block_lt_of_cell? wr _ hy0)).trans hy0; replace hy1 := (hbW.cell (World.block_lt_of_cell? wr _ hy1)).trans hy1; replace hy2 := (hbW.cell (World.block_lt_of_cell? wr _ hy2)).trans hy2; have HBW := Aside0.mk hbW; have ht0 : w4.cell? ⟨wr.heap.size, 0, none⟩ = some (.int .i64 t.f0) := blk_cell BT.out 0; have ht1 : w4.cell? ⟨wr.heap.size, 1, none⟩ = some (.int .i64 t.f1) := blk_cell BT.out 1; have ht2 : w4.cell? ⟨wr.heap.size, 2, none⟩ = some (.string t.f2) := blk_cell BT.out 2; clear hb4 hbW hx0 hx1 hx2) | (at_lookup; refine look_event _ rfl _ _ rfl w1.heap.size n m _ was true rfl (map_below HM.out HBW.out) rfl HIN.out (by rw [HGM.out]; rfl) (by rw [HGM.out]; rfl) ?_) | go_in)
                  have hbx := below_alloc (Below.refl w4.heap.size w4) (Obj.cells #[.int .i64 was.f0, .int .i64 was.f1, .string was.f2] 23 (0, 0))
                  have hbn := blk_new w4 (Obj.cells #[.int .i64 was.f0, .int .i64 was.f1, .string was.f2] 23 (0, 0))
                  generalize w4.alloc (Obj.cells #[.int .i64 was.f0, .int .i64 was.f1, .string was.f2] 23 (0, 0)) = w5 at hbx hbn ⊢
                  have HB5 := Aside0.mk (below_step HB4.out hbx)
                  have HBW5 := Aside0.mk (below_step HBW.out hbx)
                  replace hy0 := (hbx.cell (World.block_lt_of_cell? w4 _ hy0)).trans hy0
                  replace hy1 := (hbx.cell (World.block_lt_of_cell? w4 _ hy1)).trans hy1
                  replace hy2 := (hbx.cell (World.block_lt_of_cell? w4 _ hy2)).trans hy2
                  replace ht1 := (hbx.cell (World.block_lt_of_cell? w4 _ ht1)).trans ht1
                  have hw0 : w5.cell? ⟨w4.heap.size, 0, none⟩ = some (.int .i64 was.f0) := blk_cell hbn 0
                  have hw1 : w5.cell? ⟨w4.heap.size, 1, none⟩ = some (.int .i64 was.f1) := blk_cell hbn 1
                  have hw2 : w5.cell? ⟨w4.heap.size, 2, none⟩ = some (.string was.f2) := blk_cell hbn 2
                  clear hbx hbn ht0 ht2
                  refine start_ (n := 9) (S := fun w' => w'.cell? ⟨w4.heap.size, 0, none⟩ = some (.int .i64 was.f0) ∧ w'.cell? ⟨w4.heap.size, 1, none⟩ = some (.int .i64 was.f1) ∧ w'.cell? ⟨w4.heap.size, 2, none⟩ = some (.string was.f2) ∧ w'.cell? (ae.add (j * 3)) = some (.int .i64 u.f0) ∧ w'.cell? ⟨(ae.add (j * 3)).block, (ae.add (j * 3)).off + 1, none⟩ = some (.int .i64 u.f1) ∧ w'.cell? ⟨(ae.add (j * 3)).block, (ae.add (j * 3)).off + 2, none⟩ = some (.string u.f2)) (ds := []) #[false, false, false, false, false, false, false, false, false] (by kernel_rfl) rfl rfl ⟨hw0, hw1, hw2, hy0, hy1, hy2⟩ (fun hHeld => ?_)
                  refine pure_ (i := 0) (N := some 91) (v := ?_) (a' := ?_) #[true, false, false, false, false, false, false, false, false] rfl rfl (by kernel_rfl) (fun _ _ _ h => h) (Or.inl ⟨by rfl, ?_⟩) ?_ ?_
                  rotate_left
                  · intro w'
                    go_simp
                    with_reducible rfl
                  rotate_left
                  · simp only [Act.put, List.setIfInBounds_toArray, List.set_cons_zero, List.set_cons_succ, i64_w, i32_w]
                    rfl
                  refine pure_ (i := 1) (N := some 92) (v := ?_) (a' := ?_) #[true, true, false, false, false, false, false, false, false] rfl rfl (by kernel_rfl) (fun _ _ _ h => h) (Or.inl ⟨by rfl, ?_⟩) ?_ ?_
                  rotate_left
                  · intro w'
                    go_simp
                    with_reducible rfl
                  rotate_left
                  · simp only [Act.put, List.setIfInBounds_toArray, List.set_cons_zero, List.set_cons_succ, i64_w, i32_w]
                    rfl
                  refine pure_ (i := 3) (N := some 94) (v := ?_) (a' := ?_) #[true, true, false, true, false, false, false, false, false] rfl rfl (by kernel_rfl) (fun _ _ _ h => h) (Or.inl ⟨by rfl, ?_⟩) ?_ ?_
                  rotate_left
                  · intro w'
                    go_simp
                    with_reducible rfl
                  rotate_left
                  · simp only [Act.put, List.setIfInBounds_toArray, List.set_cons_zero, List.set_cons_succ, i64_w, i32_w]
                    rfl
                  refine pure_ (i := 4) (N := some 95) (v := ?_) (a' := ?_) #[true, true, false, true, true, false, false, false, false] rfl rfl (by kernel_rfl) (fun _ _ _ h => h) (Or.inl ⟨by rfl, ?_⟩) ?_ ?_
                  rotate_left
                  · intro w'
                    go_simp
                    with_reducible rfl
                  rotate_left
                  · simp only [Act.put, List.setIfInBounds_toArray, List.set_cons_zero, List.set_cons_succ, i64_w, i32_w]
                    rfl
                  refine pure_ (i := 5) (N := some 96) (v := ?_) (a' := ?_) #[true, true, false, true, true, true, false, false, false] rfl rfl (by kernel_rfl) (fun _ _ _ h => h) (Or.inl ⟨by rfl, ?_⟩) ?_ ?_
                  rotate_left
                  · intro w'
                    go_simp
                    with_reducible rfl
                  rotate_left
                  · simp only [Act.put, List.setIfInBounds_toArray, List.set_cons_zero, List.set_cons_succ, i64_w, i32_w]
                    rfl
                  refine take_ (i := 2) (N := some 93) (v := ?_) (a' := ?_) #[true, true, true, true, true, true, false, false, false] rfl rfl (by kernel_rfl) (fun _ _ _ h => h) (Or.inl ⟨by rfl, ?_⟩) hHeld ?_ ?_
                  rotate_left
                  · rintro w' ⟨s0, s1, s2, s3, s4, s5⟩
                    go_simp
                    with_reducible rfl
                  rotate_left
                  · simp only [Act.put, List.setIfInBounds_toArray, List.set_cons_zero, List.set_cons_succ, i64_w, i32_w]
                    rfl
                  refine take_ (i := 6) (N := some 97) (v := ?_) (a' := ?_) #[true, true, true, true, true, true, true, false, false] rfl rfl (by kernel_rfl) (fun _ _ _ h => h) (Or.inl ⟨by rfl, ?_⟩) hHeld ?_ ?_
                  rotate_left
                  · rintro w' ⟨s0, s1, s2, s3, s4, s5⟩
                    go_simp
                    with_reducible rfl
                  rotate_left
                  · simp only [Act.put, List.setIfInBounds_toArray, List.set_cons_zero, List.set_cons_succ, i64_w, i32_w]
                    rfl
                  refine pure_ (i := 7) (N := some 98) (v := ?_) (a' := ?_) #[true, true, true, true, true, true, true, true, false] rfl rfl (by kernel_rfl) (fun _ _ _ h => h) (Or.inl ⟨by rfl, ?_⟩) ?_ ?_
                  rotate_left
                  · intro w'
                    go_simp
                    with_reducible rfl
                  rotate_left
                  · simp only [Act.put, List.setIfInBounds_toArray, List.set_cons_zero, List.set_cons_succ, i64_w, i32_w]
                    rfl
                  refine pure_ (i := 8) (N := some 99) (v := ?_) (a' := ?_) #[true, true, true, true, true, true, true, true, true] rfl rfl (by kernel_rfl) (fun _ _ _ h => h) (Or.inl ⟨by rfl, ?_⟩) ?_ ?_
                  rotate_left
                  · intro w'
                    go_simp
                    with_reducible rfl
                  rotate_left
                  · simp only [Act.put, List.setIfInBounds_toArray, List.set_cons_zero, List.set_cons_succ, i64_w, i32_w]
                    rfl
                  refine done_ (by kernel_rfl) ?_
                  obtain rfl : res = none := by have h := HSU.out; rw [stepM_some HVT.out HGM.out, HE.out] at h; exact h.symm
                  clear hw0 hw1 hw2 he1 he2 ht1 hy0 hy1 hy2
                  go_wp2
                  go_ret2
                  exact ⟨_, rfl, Kd.R_nil _ _ _ _ _, HB5.out.drew⟩
          · obtain rfl : j = N := by have := HJ.out; omega
            have hj' : decide ((j : Int) < (j : Int)) = false := by simp
            obtain rfl : res = some m := by
              have h := HST.out
              rw [show (x :: p).drop j = [] from List.drop_eq_nil_of_le (by rw [← HNX.out]; exact Nat.le_refl _)] at h
              exact h.symm
            have hso := term_sorted.calls w1.heap.size n m wr HM.out HRM.out (by have h1 := ownsMap_len HM.out; have h2 := HN.out; have h3 := HOK.out.2.2.2.2.2.1; have h4 := HOK.out.2.2.2.2.2.2.2; have h5 := HNX.out; simp [smallN] at h3 h4; simp at h5; omega)
            go_wp2_with (go_at_call 51; refine hso.mono ?_; rintro e w5 ⟨v5, rfl, hR5, hb5⟩)
            go_ret2
            exact ⟨_, rfl, Kd.R_lower hR5 HB.out.size, below_step HB.out hb5⟩
set_option maxHeartbeats 4000000 in
set_option maxRecDepth 100000 in
theorem match_no (x y : Tm) (n0 n1 : ByteArray) (A0 : Option Addr) (c0 : Nat) (p : List Tm) (A1 : Option Addr) (c1 : Nat) (q : List Tm) (A2 : Option Addr) (c2 : Nat) (s : List Bd) (w : World)
    (h : n0.toList ≠ n1.toList ∨ p.length ≠ q.length ∨ (isVar x = true ∧ y.f0 = 0)) :
    Calls Tryd.prog 14 #[.agg #[.int .i64 x.f0, .int .i64 x.f1, .string x.f2, .string n0, .slice A0 p.length c0], .agg #[.int .i64 y.f0, .int .i64 y.f1, .string y.f2, .string n1, .slice A1 q.length c1], .slice A2 s.length c2] w fun e w' => ∃ v0_ : Value, e = .returned (.tuple #[v0_, .bool false]) ∧ Kd.R k44 44 w' w.heap.size (fun _ => True) v0_ [] ∧ Below w.heap.size w w' := by
  have hu26 := Tryd.underlying26
  have hu23 := Tryd.underlying23
  have hvc := fun W => var_calls x W
  by_cases hn : n0.toList = n1.toList
  · have hn1 : (n0.toList == n1.toList) = true := by simp [hn]
    by_cases hl : p.length = q.length
    · obtain ⟨hv, h0⟩ : isVar x = true ∧ y.f0 = 0 := by rcases h with h | h | h; exact absurd hn h; exact absurd hl h; exact h
      have hle : ((p.length : Int) == (q.length : Int)) = true := by simp [hl]
      have hln : ((p.length : Int) != (q.length : Int)) = false := by simp [hl]
      have h01 : (y.f0 == 0) = true := by simp [h0]
      rw [hv] at hvc
      clear hn hl h hv h0
      go_enter Tryd.func14, Tryd.ntmps14
      go_wp2_with (go_at_call 27; refine (hvc _).mono ?_; rintro e w1 ⟨rfl, hb1⟩; have HB1 := Aside0.mk (below_step (below_alloc (below_alloc (Below.refl _ w) _) _) hb1); have BK4 := blk_below (blk_new (w.alloc _) _) hb1; have hcy : w1.cell? ⟨w.heap.size + 1, 0, none⟩ = some (.int .i64 y.f0) := (by have h1 := blk_cell BK4 0; rw [show (w.alloc (Obj.cells #[.int .i64 x.f0, .int .i64 x.f1, .string x.f2, .string n0, .slice A0 p.length c0] 26 (0, 0))).heap.size = w.heap.size + 1 by simp] at h1; exact h1); clear hb1 BK4)
      go_ret2
      exact ⟨_, rfl, Kd.R_nil _ _ _ _ _, HB1.out⟩
    · have hle : ((p.length : Int) == (q.length : Int)) = false := by simp; omega
      have hln : ((p.length : Int) != (q.length : Int)) = true := by simp; omega
      clear hn hl h
      go_enter Tryd.func14, Tryd.ntmps14
      go_wp2
      go_ret2
      exact ⟨_, rfl, Kd.R_nil _ _ _ _ _, below_alloc (below_alloc (Below.refl _ w) _) _⟩
  · have hn1 : (n0.toList == n1.toList) = false := by simpa using hn
    have hn2 : (n0.toList != n1.toList) = true := by simpa using hn
    clear hn h
    go_enter Tryd.func14, Tryd.ntmps14
    go_wp2
    go_ret2
    exact ⟨_, rfl, Kd.R_nil _ _ _ _ _, below_alloc (below_alloc (Below.refl _ w) _) _⟩
theorem term_Match.calls (a0_0 : Int) (a0_1 : Int) (a0_2 : ByteArray) (a0_3 : ByteArray) (A0_4 : Option Addr) (c0_4 : Nat) (l0_4 : List Tm) (a1_0 : Int) (a1_1 : Int) (a1_2 : ByteArray) (a1_3 : ByteArray) (A1_4 : Option Addr) (c1_4 : Nat) (l1_4 : List Tm) (A2 : Option Addr) (c2 : Nat) (l2 : List Bd) (r1 : List Bd) (r2 : Bool) (w : World) (hr0_4 : Kd.C k23 w A0_4 l0_4.length l0_4) (hc0_4 : l0_4.length ≤ c0_4) (hr1_4 : Kd.C k23 w A1_4 l1_4.length l1_4) (hc1_4 : l1_4.length ≤ c1_4) (hr2 : Kd.C k44 w A2 l2.length l2) (hc2 : l2.length ≤ c2) (h : term_Match.f a0_0 a0_1 a0_2 a0_3 l0_4 a1_0 a1_1 a1_2 a1_3 l1_4 l2 = some (r1, r2)) :
    Calls Tryd.prog 14 #[.agg #[.int .i64 a0_0, .int .i64 a0_1, .string a0_2, .string a0_3, .slice A0_4 l0_4.length c0_4], .agg #[.int .i64 a1_0, .int .i64 a1_1, .string a1_2, .string a1_3, .slice A1_4 l1_4.length c1_4], .slice A2 l2.length c2] w fun e w' => ∃ v0_ : Value, e = .returned (.tuple #[v0_, .bool r2]) ∧ Kd.R k44 44 w' w.heap.size (fun _ => True) v0_ r1 ∧ Below w.heap.size w w' := by
  unfold term_Match.f at h
  split at h
  · rename_i hok
    simp only [Bool.and_eq_true, decide_eq_true_eq] at hok
    obtain ⟨⟨⟨⟨⟨⟨⟨hx, hy⟩, hp⟩, hq⟩, hs⟩, lp⟩, lq⟩, ls⟩ := hok
    have h := Option.some.inj h
    by_cases hc : a0_3.toList ≠ a1_3.toList ∨ l0_4.length ≠ l1_4.length ∨ (isVar ⟨a0_0, a0_1, a0_2⟩ = true ∧ a1_0 = 0)
    · have e : matchL a0_3 l0_4 a1_3 l1_4 l2 ⟨a0_0, a0_1, a0_2⟩ ⟨a1_0, a1_1, a1_2⟩ = ([], false) := by unfold matchL; exact if_pos hc
      rw [e] at h
      injection h with h1 h2
      subst h1 h2
      exact match_no ⟨a0_0, a0_1, a0_2⟩ ⟨a1_0, a1_1, a1_2⟩ a0_3 a1_3 A0_4 c0_4 l0_4 A1_4 c1_4 l1_4 A2 c2 l2 w hc
    · have hn : a0_3.toList = a1_3.toList := Classical.byContradiction fun h => hc (.inl h)
      have hl : l0_4.length = l1_4.length := Classical.byContradiction fun h => hc (.inr (.inl h))
      have := match_go ⟨a0_0, a0_1, a0_2⟩ ⟨a1_0, a1_1, a1_2⟩ a0_3 a1_3 A0_4 c0_4 l0_4 A1_4 c1_4 l1_4 A2 c2 l2 w hr0_4 hc0_4 hr1_4 hc1_4 hr2 hc2 hx hy hp hq hs lp lq ls (by simp [hn]) hl _ rfl (fun hv => by
        have : a1_0 ≠ 0 := fun h0 => hc (.inr (.inr ⟨hv, h0⟩))
        simpa using this)
      rw [h] at this
      exact this
  · cases h
end Go.Proofs.YtnomgmlfagiffaaDoor.T
